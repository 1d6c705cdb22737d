/- Side texts. -/
import Derived.ProofKit
import Derived.Deep.Slices
import Derived.Test.YtjdnjamfgdjncaaGreatProg
import Derived.KernelRfl
import Derived.Test.YtjdnjamfgdjncaaGreatADs2
import Derived.Test.YtjdnjamfgdjncaaGreatADs12
set_option linter.unusedVariables false
set_option linter.unusedSimpArgs false
namespace Go.Ep.M.T
open Go
open E (OkE yE wj)
open F (vf zu yB wk)
open G (yx Xb zy vc wq xV ya zt hD Vd yV jb uX vP)
structure yi where
 e:EV
 ks:List DT
 saw:Nat->Bool
def jM(f g:yi):Bool:=decide (f.e.cid=g.e.cid)&&(decide (f.e.kind=2)||decide (f.e.field=g.e.field))
theorem Wn{f g:yi}:jM f g=true↔f.e.cid=g.e.cid/\(f.e.kind=2\/f.e.field=g.e.field):=by simp[jM]
def Out(Y:List yi)(j i:Nat):Prop:=∃ f g,Y[j]?=some f/\Y[i]?=some g/\f.saw i=true/\jM f g=true
def Xi(Y:List yi)(s:Nat->Bool)(i:Nat):Prop:=∃ g,Y[i]?=some g/\s i=true/\g.e.kind=1/\∀ j,s j=true->¬ Out Y j i
def full(f:yi):EV:=⟨f.e.dot,f.e.kind,f.e.cid,f.e.field,f.e.text,f.ks⟩
structure Facts(Y:List yi):Prop where
 dots:∀ (i j:Nat) (f g:yi),Y[i]?=some f->Y[j]?=some g->f.e.dot=g.e.dot->i=j
 kind:∀ (i:Nat) (f:yi),Y[i]?=some f->f.e.kind=1\/f.e.kind=2
 bare:∀ (i:Nat) (f:yi),Y[i]?=some f->f.e.kills=[]
 lt:∀ (j:Nat) (f:yi) (i:Nat),Y[j]?=some f->f.saw i=true->i < j
 clo:∀ (j:Nat) (f:yi) (i:Nat) (g:yi) (k:Nat),Y[j]?=some f->f.saw i=true->Y[i]?=some g->g.saw k=true->f.saw k=true
 snd:∀ (j:Nat) (f:yi) (d:DT),Y[j]?=some f->d∈f.ks->∃ (i:Nat) (g:yi),Y[i]?=some g/\g.e.dot=d/\g.e.kind=1/\Out Y j i
theorem Facts.same{Y:List yi}(h:Facts Y){i j:Nat}{f g:yi}(hi:Y[i]?=some f)(hj:Y[j]?=some g)(e:f.e.dot=g.e.dot):i=j/\f=g:=by
 have:=h.dots i j f g hi hj e;subst this;rw[hi] at hj;exact⟨rfl,Option.some.inj hj⟩
theorem Facts.trans{Y:List yi}(h:Facts Y){k j i:Nat}{g:yi}(hg:Y[j]?=some g)(h1:g.e.kind=1)(a:Out Y k j)(b:Out Y j i):Out Y k i:=by
 obtain⟨f,g',hf,hg',a1,a2⟩:=a;rw[hg] at hg';cases hg';obtain⟨g',x,hg',hx,b1,b2⟩:=b;rw[hg] at hg';cases hg';refine⟨f,x,hf,hx,h.clo k f j g i hf a1 hg b1,?_⟩;rw[Wn] at a2 b2 ⊢;have hf2:g.e.field=x.e.field:=b2.2.resolve_left (by omega);exact⟨a2.1.trans b2.1,a2.2.imp id fun h=>h.trans hf2⟩
def Dead(Y:List yi)(A:Nat->Prop)(d:DT):Prop:=∃ (i:Nat) (h:yi) (x:Nat),Y[i]?=some h/\h.e.dot=d/\A x/\Out Y x i
structure Bk(Y:List yi)(A:Nat->Prop)(s:Nat->Bool)(W:List PT)(L:List EV):Prop where
 low:∀ i,s i=true->i < Y.length
 clo:∀ (j:Nat) (f:yi) (i:Nat),s j=true->Y[j]?=some f->f.saw i=true->s i=true
 has:∀ k n,C.yf W k n=true↔∃ (i:Nat) (f:yi),Y[i]?=some f/\s i=true/\f.e.dot=⟨k,n⟩
 ev:∀ e∈L,∃ (i:Nat) (f:yi),Y[i]?=some f/\s i=true/\vc e=f.e/\(e.kills=f.ks\/(e.kills=[]/\A i))
 shown:∀ (i:Nat) (f:yi),Y[i]?=some f->Xi Y s i->∃ e∈L,e.dot=f.e.dot
 live:∀ e∈L,e.kind=1->∀ (i:Nat) (f:yi),Y[i]?=some f->e.dot=f.e.dot->Xi Y s i
 dead:∀ (i:Nat) (f:yi),Y[i]?=some f->s i=true->f.e.kind=1->¬ Xi Y s i->(∃ e∈L,f.e.dot∈e.kills)\/Dead Y A f.e.dot
def Tr(Y:List yi)(A:Nat->Prop):Prop:=∀ (k:Nat) (f:yi) (j:Nat) (g:yi) (d:DT),Y[k]?=some f->Y[j]?=some g->g.e.dot∈f.ks->d∈g.ks->d∈f.ks\/Dead Y A d
theorem yK{e:EV}{f:yi}(h:vc e=f.e):e.dot=f.e.dot:=by rw[<- h];rfl
theorem vy{e:EV}{f:yi}(h:vc e=f.e):e.kind=f.e.kind:=by rw[<- h];rfl
theorem Dead.mono{Y:List yi}{A A':Nat->Prop}(hA:∀ i,A i->A' i){d:DT}(h:Dead Y A d):Dead Y A' d:=by
 obtain⟨i,h1,x,h2,h3,h4,h5⟩:=h;exact⟨i,h1,x,h2,h3,hA x h4,h5⟩
theorem Bk.mono{Y:List yi}{A A':Nat->Prop}(hA:∀ i,A i->A' i){s:Nat->Bool}{W:List PT}{L:List EV}(h:Bk Y A s W L):Bk Y A' s W L:=
 { h with
  ev:=fun e he=>by obtain⟨i,f,h1,h2,h3,h4⟩:=h.ev e he;exact⟨i,f,h1,h2,h3,h4.imp id fun⟨q,r⟩=>⟨q,hA i r⟩⟩
  dead:=fun i f h1 h2 h3 h4=>(h.dead i f h1 h2 h3 h4).imp id (Dead.mono hA) }
theorem Tr.mono{Y:List yi}{A A':Nat->Prop}(hA:∀ i,A i->A' i)(h:Tr Y A):Tr Y A':=fun k f j g d h1 h2 h3 h4=>(h k f j g d h1 h2 h3 h4).imp id (Dead.mono hA)
section
variable{Y:List yi}{A:Nat->Prop}{s:Nat->Bool}{W:List PT}{L:List EV}
theorem Bk.kill(hF:Facts Y)(h:Bk Y A s W L){e:EV}(he:e∈L){d:DT}(hd:d∈e.kills) :
  ∃ (j:Nat) (f:yi) (i:Nat) (g:yi),Y[j]?=some f/\s j=true/\vc e=f.e/\e.kills=f.ks/\Y[i]?=some g/\g.e.dot=d/\g.e.kind=1/\Out Y j i/\s i=true:=by
 obtain⟨j,f,h1,h2,h3,h4⟩:=h.ev e he;have hk:e.kills=f.ks:=by
  rcases h4 with h4 | ⟨h4,_⟩
  ·exact h4
  ·rw[h4] at hd;cases hd
 obtain⟨i,g,h5,h6,h7,h8⟩:=hF.snd j f d h1 (hk▸hd);refine⟨j,f,i,g,h1,h2,h3,hk,h5,h6,h7,h8,?_⟩;obtain⟨f',_,hf',_,h9,_⟩:=h8;rw[h1] at hf';cases hf';exact h.clo j f i h2 h1 h9
theorem Bk.unseen(hF:Facts Y)(h:Bk Y A s W L){i:Nat}{f:yi}(hi:Y[i]?=some f):C.yf W f.e.dot.dev f.e.dot.n=s i:=by
 rw[Bool.eq_iff_iff,h.has]
 constructor
 ·rintro⟨j,g,h1,h2,h3⟩;obtain⟨rfl,_⟩:=hF.same hi h1 (by rw[h3]);exact h2
 ·intro h1;exact⟨i,f,hi,h1,rfl⟩
theorem Bk.seen(h:Bk Y A s W L){e:EV}(he:e∈L):C.yf W e.dot.dev e.dot.n=true:=by
 obtain⟨i,f,h1,h2,h3,_⟩:=h.ev e he;exact(h.has _ _).2 ⟨i,f,h1,h2,by rw[<- yK h3]⟩
end
theorem zO{Y:List yi}{f:yi}{i:Nat}{g:yi}:(Y++[f])[i]?=some g↔Y[i]?=some g\/(i=Y.length/\g=f):=by
 rw[List.getElem?_append]
 by_cases h:i < Y.length
 ·rw[if_pos h];exact⟨.inl,fun h2=>h2.resolve_right fun h3=>by omega⟩
 ·rw[if_neg h];have h0:Y[i]?=none:=List.getElem?_eq_none (by omega);rw[h0]
  by_cases h2:i=Y.length
  ·subst h2;simp[eq_comm]
  ·have:([f]:List yi)[i - Y.length]?=none:=List.getElem?_eq_none (by simp;omega);rw[this];simp[h2]
theorem Zl{Y:List yi}{i:Nat}{g:yi}(h:Y[i]?=some g):i < Y.length:=(List.getElem?_eq_some_iff.1 h).1
theorem Wo{Y:List yi}{f:yi}{j i:Nat}(h:Out Y j i):Out (Y++[f]) j i:=by
 obtain⟨a,b,h1,h2,h3⟩:=h;exact⟨a,b,zO.2 (.inl h1),zO.2 (.inl h2),h3⟩
theorem w4a{Y:List yi}(hF:Facts Y){f:yi}{j i:Nat}(h:Out (Y++[f]) j i)(hj:j < Y.length):Out Y j i:=by
 obtain⟨a,b,h1,h2,h3,h4⟩:=h;have h1':=(zO.1 h1).resolve_right (by omega);have:=hF.lt j a i h1' h3;exact⟨a,b,h1',(zO.1 h2).resolve_right (by omega),h3,h4⟩
theorem Yx{L:List EV}{e:EV}(hn:∀ x∈L,x.dot≠e.dot){x:EV}:x∈Xb L e↔x=e\/(x∈L/\(x.kind≠1\/x.dot∉e.kills)):=by
 unfold Xb;rw[uX (fun x hx=>hn x (List.mem_filter.1 hx).1),List.mem_filter];simp only[Bool.or_eq_true,Bool.not_eq_true',decide_eq_false_iff_not,<- Bool.not_eq_true (b:=vf _ _),vP]
theorem vi{L:List EV}{e:EV}(hk:e.kind=1\/e.kind=2){d:DT}:d∈wq L e↔∃ y∈L,y.kind=1/\y.cid=e.cid/\(e.kind=2\/y.field=e.field)/\(d=y.dot\/d∈y.kills):=by
 unfold wq;rw[show yB _=D.ZY (zu _) from rfl,D.ZS,yV]
 constructor
 ·rintro⟨y,hy,h⟩;obtain⟨h1,h2⟩:=List.mem_filter.1 hy;obtain⟨h3,h4⟩:=zy.1 h1;refine⟨y,h3,h4,?_⟩;rcases hk with hk | hk
  ·rw[if_pos hk] at h2;simp only[Bool.and_eq_true,decide_eq_true_eq] at h2;exact⟨h2.1,.inr h2.2,h⟩
  ·rw[if_neg (by omega)] at h2;exact⟨by simpa using h2,.inl hk,h⟩
 ·rintro⟨y,h3,h4,h5,h6,h⟩;refine⟨y,List.mem_filter.2 ⟨zy.2 ⟨h3,h4⟩,?_⟩,h⟩;rcases hk with hk | hk
  ·rw[if_pos hk];simp[h5,h6.resolve_left (by omega)]
  ·rw[if_neg (by omega)];simp[h5]
section
variable{Y:List yi}{A A':Nat->Prop}{s s2:Nat->Bool}{W W2:List PT}{L L2:List EV}{e:EV}
def YV(L:List EV)(s:Nat->Bool)(e:EV):yi:=⟨e,wq L e,s⟩
theorem Xc(hF:Facts Y)(h:Bk Y A s W L)(hk:e.kind=1\/e.kind=2){d:DT}(hd:d∈wq L e) :
  ∃ (i:Nat) (g:yi),Y[i]?=some g/\g.e.dot=d/\g.e.kind=1/\s i=true/\jM (YV L s e) g=true:=by
 obtain⟨y,hy,h1,h2,h3,h4⟩:=(vi hk).1 hd;obtain⟨j,f,a1,a2,a3,a4⟩:=h.ev y hy;have hp:jM (YV L s e) f=true:=by
  rw[Wn,<- a3];exact⟨h2.symm,h3.imp id Eq.symm⟩
 rcases h4 with rfl | h4
 ·exact⟨j,f,a1,(yK a3).symm,by rw[<- vy a3];exact h1,a2,hp⟩
 ·obtain⟨j',f',i,g,b1,b2,b3,b4,b5,b6,b7,b8,b9⟩:=h.kill hF hy h4;obtain⟨rfl,rfl⟩:=hF.same a1 b1 (by rw[<- a3,<- b3]);refine⟨i,g,b5,b6,b7,b9,?_⟩;obtain⟨f',g',c1,c2,c3,c4⟩:=b8;rw[a1] at c1;cases c1;rw[b5] at c2;cases c2;rw[Wn] at hp c4 ⊢;have hf1:f.e.kind=1:=by rw[<- vy a3];exact h1
  exact⟨hp.1.trans c4.1,hp.2.imp id fun q=>q.trans (c4.2.resolve_left (by omega))⟩
theorem JD(hF:Facts Y)(h:Bk Y A s W L)(hk:e.kind=1\/e.kind=2)(hb:e.kills=[])(hnew:∀ (i:Nat) (f:yi),Y[i]?=some f->f.e.dot≠e.dot):Facts (Y++[YV L s e]) where
 dots i j f g hi hj he:=by
  rcases zO.1 hi with hi | ⟨rfl,rfl⟩ <;> rcases zO.1 hj with hj | ⟨rfl,rfl⟩
  ·exact hF.dots i j f g hi hj he
  ·exact(hnew i f hi he).elim
  ·exact(hnew j g hj he.symm).elim
  ·rfl
 kind i f hi:=by
  rcases zO.1 hi with hi | ⟨rfl,rfl⟩
  ·exact hF.kind i f hi
  ·exact hk
 bare i f hi:=by
  rcases zO.1 hi with hi | ⟨rfl,rfl⟩
  ·exact hF.bare i f hi
  ·exact hb
 lt j f i hj hi:=by
  rcases zO.1 hj with hj | ⟨rfl,rfl⟩
  ·exact hF.lt j f i hj hi
  ·exact h.low i hi
 clo j f i g k hj hi hg hk:=by
  rcases zO.1 hj with hj | ⟨rfl,rfl⟩
  ·have:=hF.lt j f i hj hi;have:=Zl hj;exact hF.clo j f i g k hj hi ((zO.1 hg).resolve_right (by omega)) hk
  ·have:=h.low i hi;exact h.clo i g k hi ((zO.1 hg).resolve_right (by omega)) hk
 snd j f d hj hd:=by
  rcases zO.1 hj with hj | ⟨rfl,rfl⟩
  ·obtain⟨i,g,h1,h2,h3,h4⟩:=hF.snd j f d hj hd;exact⟨i,g,zO.2 (.inl h1),h2,h3,Wo h4⟩
  ·obtain⟨i,g,h1,h2,h3,h4,h5⟩:=Xc hF h hk hd;exact⟨i,g,zO.2 (.inl h1),h2,h3,_,g,hj,zO.2 (.inl h1),h4,h5⟩
theorem Wp{f:yi}{d:DT}(hA:∀ i,A i->A' i)(h:Dead Y A d):Dead (Y++[f]) A' d:=by
 obtain⟨i,g,x,h1,h2,h3,h4⟩:=h;exact⟨i,g,x,zO.2 (.inl h1),h2,hA x h3,Wo h4⟩
theorem tr_snoc(hF:Facts Y)(ht:Tr Y A)(h:Bk Y A s W L)(hA:∀ i,A i->A' i)(hk:e.kind=1\/e.kind=2)(hnew:∀ (i:Nat) (f:yi),Y[i]?=some f->f.e.dot≠e.dot):Tr (Y++[YV L s e]) A':=by
 intro k f j g d h1 h2 h3 h4;have hj:Y[j]?=some g:=by
  rcases zO.1 h2 with h2 | ⟨rfl,rfl⟩
  ·exact h2
  ·exfalso;rcases zO.1 h1 with h1 | ⟨rfl,rfl⟩
   ·obtain⟨i,q,a1,a2,_⟩:=hF.snd k f _ h1 h3;exact hnew i q a1 a2
   ·obtain⟨i,q,a1,a2,_⟩:=Xc hF h hk h3;exact hnew i q a1 a2
 rcases zO.1 h1 with h1 | ⟨rfl,rfl⟩
 ·exact(ht k f j g d h1 hj h3 h4).imp id (Wp hA)
 ·obtain⟨y,hy,a1,a2,a3,a4⟩:=(vi hk).1 h3;obtain⟨q,x,b1,b2,b3,b4⟩:=h.ev y hy;rcases a4 with a4 | a4
  ·obtain⟨rfl,rfl⟩:=hF.same hj b1 (by rw[a4,yK b3]);rcases b4 with b4 | ⟨_,b4⟩
   ·exact .inl ((vi hk).2 ⟨y,hy,a1,a2,a3,.inr (by rw[b4];exact h4)⟩)
   ·obtain⟨i,r,c1,c2,_,c4⟩:=hF.snd j g d hj h4;exact .inr ⟨i,r,j,zO.2 (.inl c1),c2,hA j b4,Wo c4⟩
  ·have hyk:y.kills=x.ks:=b4.resolve_right fun⟨q,_⟩=>by rw[q] at a4;cases a4
   rcases ht q x j g d b1 hj (hyk▸a4) h4 with h5 | h5
   ·exact .inl ((vi hk).2 ⟨y,hy,a1,a2,a3,.inr (by rw[hyk];exact h5)⟩)
   ·exact .inr (Wp hA h5)
theorem VO(hF:Facts Y){f:yi}(hl:∀ i,s i=true->i < Y.length){i:Nat}:Xi (Y++[f]) s i↔Xi Y s i:=by
 constructor
 ·rintro⟨g,h1,h2,h3,h4⟩;have:=hl i h2;exact⟨g,(zO.1 h1).resolve_right (by omega),h2,h3,fun j hj ho=>h4 j hj (Wo ho)⟩
 ·rintro⟨g,h1,h2,h3,h4⟩;exact⟨g,zO.2 (.inl h1),h2,h3,fun j hj ho=>h4 j hj (w4a hF ho (hl j hj))⟩
theorem bk_snoc(hF:Facts Y)(h:Bk Y A s W L)(hA:∀ i,A i->A' i)(f:yi)(hnew:∀ (i:Nat) (g:yi),Y[i]?=some g->g.e.dot≠f.e.dot):Bk (Y++[f]) A' s W L where
 low i hi:=by have:=h.low i hi;simp;omega
 clo j g i hj hg hi:=by
  have:=h.low j hj;exact h.clo j g i hj ((zO.1 hg).resolve_right (by omega)) hi
 has k n:=by
  rw[h.has]
  constructor
  ·rintro⟨i,g,h1,h2⟩;exact⟨i,g,zO.2 (.inl h1),h2⟩
  ·rintro⟨i,g,h1,h2,h3⟩;have:=h.low i h2;exact⟨i,g,(zO.1 h1).resolve_right (by omega),h2,h3⟩
 ev e he:=by
  obtain⟨i,g,h1,h2,h3,h4⟩:=h.ev e he;exact⟨i,g,zO.2 (.inl h1),h2,h3,h4.imp id fun⟨q,r⟩=>⟨q,hA i r⟩⟩
 shown i g hi hs:=by
  have hs2:=(VO hF h.low).1 hs;obtain⟨g',h1,h2,_⟩:=id hs2;have:=h.low i h2;exact h.shown i g ((zO.1 hi).resolve_right (by omega)) hs2
 live e he hk i g hi hd:=by
  obtain⟨j,q,h1,h2,h3,_⟩:=h.ev e he;have hi':Y[i]?=some g\/(i=Y.length/\g=f):=zO.1 hi;rcases hi' with hi' | ⟨rfl,rfl⟩
  ·exact(VO hF h.low).2 (h.live e he hk i g hi' hd)
  ·exact(hnew j q h1 ((yK h3).symm.trans hd)).elim
 dead i g hi hs hk hn:=by
  have:=h.low i hs;exact(h.dead i g ((zO.1 hi).resolve_right (by omega)) hs hk fun q=>hn ((VO hF h.low).2 q)).imp id (Wp hA)
theorem bk_make(hF:Facts Y)(h:Bk Y A s W L)(hA:∀ i,A i->A' i)(hk:e.kind=1\/e.kind=2)(hb:e.kills=[])(hg:V.yC e.dot=true)(hnew:∀ (i:Nat) (f:yi),Y[i]?=some f->f.e.dot≠e.dot)
  (halive:∀ x∈L,x.kind=1->∀ y∈L,x.dot∉y.kills) (hgood:∀ x∈L,yE x=true) (hs2:∀ i,s2 i=(s i||decide (i=Y.length))) :
  Bk (Y++[YV L s e]) A' s2 (W++C.yD (yB [full (YV L s e)])) (Xb L (full (YV L s e))):=by
 have hF':=JD (Y:=Y) hF h hk hb hnew;have hne:∀ x∈L,x.dot≠(full (YV L s e)).dot:=fun x hx he=>by
  obtain⟨i,f,h1,_,h3,_⟩:=h.ev x hx;exact hnew i f h1 ((yK h3).symm.trans he)
 have hmem:=fun x=>Yx (L:=L) (e:=full (YV L s e)) hne (x:=x)
 have hlast:(Y++[YV L s e])[Y.length]?=some (YV L s e):=zO.2 (.inr ⟨rfl,rfl⟩);have s2i:∀ {i},s2 i=true↔s i=true\/i=Y.length:=fun {i}=>by rw[hs2];simp
 have hgk:∀ d∈wq L e,V.yC d=true:=fun d hd=>by
  obtain⟨y,hy,_,_,_,h4⟩:=(vi hk).1 hd;rcases h4 with rfl | h4
  ·exact G.Wm (hgood y hy)
  ·exact((G.XZ (hgood y hy)).2.2 d h4).1
 -- what the new one puts out
 have hout:∀ {i:Nat} {g:yi},Y[i]?=some g->(Out (Y++[YV L s e]) Y.length i↔s i=true/\jM (YV L s e) g=true):=fun {i g} hi=>by
  constructor
  ·rintro⟨a,b,h1,h2,h3,h4⟩;rw[hlast] at h1;cases h1;have:=Zl hi;have h2':=(zO.1 h2).resolve_right (by omega);rw[hi] at h2';cases h2';exact⟨h3,h4⟩
  ·rintro⟨h1,h2⟩;exact⟨_,g,hlast,zO.2 (.inl hi),h1,h2⟩
 have hshown:∀ {i:Nat} {g:yi},Y[i]?=some g->(Xi (Y++[YV L s e]) s2 i↔Xi Y s i/\jM (YV L s e) g=false):=fun {i g} hi=>by
  have hlt:=Zl hi
  constructor
  ·rintro⟨g',h1,h2,h3,h4⟩;have h1':=(zO.1 h1).resolve_right (by omega);rw[hi] at h1';cases h1';have hsi:=(s2i.1 h2).resolve_right (by omega);refine⟨⟨g,hi,hsi,h3,fun j hj ho=>h4 j (s2i.2 (.inl hj)) (Wo ho)⟩,?_⟩
   cases hp:jM (YV L s e) g with
   | false=>rfl
   | true=>exact(h4 _ (s2i.2 (.inr rfl)) ((hout hi).2 ⟨hsi,hp⟩)).elim
  ·rintro⟨⟨g',h1,h2,h3,h4⟩,h5⟩;rw[hi] at h1;cases h1;refine⟨g,zO.2 (.inl hi),s2i.2 (.inl h2),h3,fun j hj ho=>?_⟩;rcases s2i.1 hj with hj | rfl
   ·exact h4 j hj (w4a hF ho (h.low j hj))
   ·rw[((hout hi).1 ho).2] at h5;cases h5
 have hlastShown:e.kind=1->Xi (Y++[YV L s e]) s2 Y.length:=fun h1=>⟨_,hlast,s2i.2 (.inr rfl),h1,fun j hj ⟨a,b,g1,g2,g3,_⟩=>by
  have:=hF'.lt j a _ g1 g3;have:=Zl g1;simp at this;omega⟩
 refine⟨fun i hi=>?_,fun j f i hj hf hi=>?_,fun k n=>?_,fun z hz=>?_,fun i f hi hs=>?_,fun z hz h1 i f hi hd=>?_,fun i f hi hsi h1 hn=>?_⟩
 ·rcases s2i.1 hi with hi | rfl
  ·have:=h.low i hi;simp;omega
  ·simp
 ·rcases s2i.1 hj with hj | rfl
  ·have:=h.low j hj;exact s2i.2 (.inl (h.clo j f i hj ((zO.1 hf).resolve_right (by omega)) hi))
  ·rw[hlast] at hf;cases hf;exact s2i.2 (.inl hi)
 ·rw[C.ve,Bool.or_eq_true,h.has,show C.yf (C.yD (yB [full (YV L s e)])) k n=hD (full (YV L s e)) k n from rfl,Vd]
  constructor
  ·rintro(⟨i,f,h1,h2,h3⟩ | ⟨d,h1,_,rfl,rfl⟩)
   ·exact⟨i,f,zO.2 (.inl h1),s2i.2 (.inl h2),h3⟩
   ·rcases h1 with rfl | h1
    ·exact⟨_,_,hlast,s2i.2 (.inr rfl),rfl⟩
    ·obtain⟨i,g,a1,a2,_,a4,_⟩:=Xc hF h hk h1;exact⟨i,g,zO.2 (.inl a1),s2i.2 (.inl a4),a2⟩
  ·rintro⟨i,f,h1,h2,h3⟩;rcases zO.1 h1 with h1 | ⟨rfl,rfl⟩
   ·have:=Zl h1;exact .inl ⟨i,f,h1,(s2i.1 h2).resolve_right (by omega),h3⟩
   ·exact .inr ⟨e.dot,.inl rfl,hg,by rw[show e.dot=_ from h3],by rw[show e.dot=_ from h3]⟩
 ·rcases(hmem z).1 hz with rfl | ⟨hz,_⟩
  ·refine⟨_,_,hlast,s2i.2 (.inr rfl),?_,.inl rfl⟩;show vc (full (YV L s e))=e;simp only[vc,full,YV]
   cases e;simp at hb;subst hb;rfl
  ·obtain⟨i,f,h1,h2,h3,h4⟩:=h.ev z hz;exact⟨i,f,zO.2 (.inl h1),s2i.2 (.inl h2),h3,h4.imp id fun⟨q,r⟩=>⟨q,hA i r⟩⟩
 ·rcases zO.1 hi with hi | ⟨rfl,rfl⟩
  ·obtain⟨h1,h2⟩:=(hshown hi).1 hs;obtain⟨z,hz,hd⟩:=h.shown i f hi h1;refine⟨z,(hmem z).2 (.inr ⟨hz,?_⟩),hd⟩
   by_cases hzk:z.kind=1
   ·right
    intro hc;obtain⟨i',g,a1,a2,_,_,a5⟩:=Xc hF h hk (show z.dot∈wq L e from hc);obtain⟨rfl,rfl⟩:=hF.same a1 hi (a2.trans hd);rw[a5] at h2;cases h2
   ·exact .inl hzk
  ·exact⟨_,(hmem _).2 (.inl rfl),rfl⟩
 ·rcases(hmem z).1 hz with rfl | ⟨hz,h2⟩
  ·rcases zO.1 hi with hi | ⟨rfl,rfl⟩
   ·exact(hnew i f hi hd.symm).elim
   ·exact hlastShown h1
  ·rcases zO.1 hi with hi | ⟨rfl,rfl⟩
   ·refine(hshown hi).2 ⟨h.live z hz h1 i f hi hd,?_⟩
    cases hp:jM (YV L s e) f with
    | false=>rfl
    | true=>
     exfalso;refine h2.elim (fun q=>q h1) fun q=>q ((vi hk).2 ⟨z,hz,h1,?_⟩)
     obtain⟨j,g,a1,a2,a3,_⟩:=h.ev z hz;obtain⟨rfl,rfl⟩:=hF.same a1 hi ((yK a3).symm.trans hd);rw[Wn,<- a3] at hp;exact⟨hp.1.symm,hp.2.imp id Eq.symm,.inl rfl⟩
   ·exact(hne z hz hd).elim
 ·rcases zO.1 hi with hi | ⟨rfl,rfl⟩
  ·have hlt:=Zl hi;have hsi':=(s2i.1 hsi).resolve_right (by omega);have keep:∀ z∈L,f.e.dot∈z.kills->(∃ e'∈Xb L (full (YV L s e)),f.e.dot∈e'.kills)\/Dead (Y++[YV L s e]) A' f.e.dot:=fun z hz hzk=>by
    by_cases hq:z.kind≠1\/z.dot∉wq L e
    ·exact .inl ⟨z,(hmem z).2 (.inr ⟨hz,hq⟩),hzk⟩
    ·have hq1:z.kind=1:=Classical.byContradiction fun q=>hq (.inl q)
     have hq2:z.dot∈wq L e:=Classical.byContradiction fun q=>hq (.inr q)
     obtain⟨y,hy,a1,a2,a3,a4⟩:=(vi hk).1 hq2;rcases a4 with a4 | a4
     ·obtain⟨jz,fz,b1,_,b3,_⟩:=h.ev z hz;obtain⟨jy,fy,c1,_,c3,_⟩:=h.ev y hy;obtain⟨rfl,rfl⟩:=hF.same b1 c1 ((yK b3).symm.trans (a4.trans (yK c3)));refine .inl ⟨_,(hmem _).2 (.inl rfl),(vi hk).2 ⟨z,hz,hq1,?_,?_,.inr hzk⟩⟩
      ·have:vc z=vc y:=b3.trans c3.symm;simp only[vc,EV.mk.injEq] at this;rw[this.2.2.1];exact a2
      ·have:vc z=vc y:=b3.trans c3.symm;simp only[vc,EV.mk.injEq] at this;rw[this.2.2.2.1];exact a3
     ·exact(halive z hz hq1 y hy a4).elim
   by_cases hsh:Xi Y s i
   ·have hp:jM (YV L s e) f=true:=by
     cases hp:jM (YV L s e) f with
     | true=>rfl
     | false=>exact(hn ((hshown hi).2 ⟨hsh,hp⟩)).elim
    obtain⟨z,hz,hd⟩:=h.shown i f hi hsh;refine .inl ⟨_,(hmem _).2 (.inl rfl),(vi hk).2 ⟨z,hz,?_⟩⟩;obtain⟨j,g,a1,a2,a3,_⟩:=h.ev z hz;obtain⟨rfl,rfl⟩:=hF.same a1 hi ((yK a3).symm.trans hd);rw[Wn,<- a3] at hp;exact⟨by rw[vy a3];exact h1,hp.1.symm,hp.2.imp id Eq.symm,.inl hd.symm⟩
   ·rcases h.dead i f hi hsi' h1 hsh with⟨z,hz,hzk⟩ | hdd
    ·exact keep z hz hzk
    ·exact .inr (Wp hA hdd)
  ·exact(hn (hlastShown h1)).elim
end
open E (OkE yE wj)
open F (vf zu yB wk)
open G (yx Xb Vc zy vc wq xV ya zt hD Vd yV jb uX vP)
section
variable{Y:List yi}{A A':Nat->Prop}{s sv sw s2:Nat->Bool}{W Wv Ww W2:List PT}{L Lv Lw L2:List EV}{e:EV}
theorem bk_tell(hF:Facts Y)(ht:Tr Y A)(hv:Bk Y A sv Wv Lv)(hw:Bk Y A sw Ww Lw)(hA:∀ i,A i->A' i)(hAv:∀ i,A i->sv i=true){P:List EV}(hP:∀ x,x∈P↔x∈Lw/\C.yf Wv x.dot.dev x.dot.n=false)
  (hs2:∀ i,s2 i=(sv i||sw i)) (hL:∀ x,x∈L2↔x∈P\/(x∈Lv/\(x.kind≠1\/∀ y∈P,x.dot∉y.kills))) (hW:∀ k n,C.yf W2 k n=true↔C.yf Wv k n=true\/C.yf Ww k n=true\/∃ y∈P,hD y k n=true):Bk Y A' s2 W2 L2:=by
 have s2i:∀ {i},s2 i=true↔sv i=true\/sw i=true:=fun {i}=>by rw[hs2];simp
 have seenE:∀ {x:EV} {i:Nat} {f:yi},Y[i]?=some f->x.dot=f.e.dot->C.yf Wv x.dot.dev x.dot.n=sv i:=fun {x i f} hi hd=>by rw[hd];exact hv.unseen hF hi
 have outClo:∀ {t:Nat->Bool} {Wt:List PT} {Lt:List EV},Bk Y A t Wt Lt->∀ {j i:Nat},t j=true->Out Y j i->t i=true:=fun {t Wt Lt} hb {j i} hj ⟨a,b,h1,_,h3,_⟩=>hb.clo j a i hj h1 h3
 -- a fact of v's that is not shown there
 have X:∀ (i:Nat) (f:yi),Y[i]?=some f->sv i=true->f.e.kind=1->¬ Xi Y sv i->(∃ e∈L2,f.e.dot∈e.kills)\/Dead Y A' f.e.dot:=fun i f hi hs h1 hn=>by
  rcases hv.dead i f hi hs h1 hn with⟨z,hz,hzk⟩ | hd
  ·by_cases hq:z.kind≠1\/∀ y∈P,z.dot∉y.kills
   ·exact .inl ⟨z,(hL z).2 (.inr ⟨hz,hq⟩),hzk⟩
   ·have hq2:∃ y∈P,z.dot∈y.kills:=Classical.byContradiction fun q=>hq (.inr fun y hy hc=>q ⟨y,hy,hc⟩)
    obtain⟨y,hy,hyk⟩:=hq2;obtain⟨jy,fy,i',g',a1,_,_,a4,a5,a6,_,_,_⟩:=hw.kill hF ((hP y).1 hy).1 hyk;obtain⟨jz,fz,i2,g2,b1,_,b3,b4,b5,b6,_,_,_⟩:=hv.kill hF hz hzk;have hzd:fz.e.dot∈fy.ks:=by rw[<- yK b3,<- a4];exact hyk
    rcases ht jy fy jz fz f.e.dot a1 b1 hzd (b4▸hzk) with h5 | h5
    ·exact .inl ⟨y,(hL y).2 (.inl hy),by rw[a4];exact h5⟩
    ·exact .inr (h5.mono hA)
  ·exact .inr (hd.mono hA)
 have notShown:∀ {t:Nat->Bool} {j i:Nat},t j=true->Out Y j i->¬ Xi Y t i:=fun {t j i} hj ho ⟨_,_,_,_,h4⟩=>h4 j hj ho
 have YY:∀ (i:Nat) (f:yi),Y[i]?=some f->sw i=true->f.e.kind=1->¬ Xi Y sw i->(∃ e∈L2,f.e.dot∈e.kills)\/Dead Y A' f.e.dot:=fun i f hi hs h1 hn=>by
  rcases hw.dead i f hi hs h1 hn with⟨z,hz,hzk⟩ | hd
  ·obtain⟨jz,fz,i2,g2,b1,_,b3,b4,b5,b6,_,b8,_⟩:=hw.kill hF hz hzk;obtain⟨rfl,rfl⟩:=hF.same b5 hi b6
   cases hc:C.yf Wv z.dot.dev z.dot.n with
   | false=>exact .inl ⟨z,(hL z).2 (.inl ((hP z).2 ⟨hz,hc⟩)),hzk⟩
   | true=>
    have hsv:sv jz=true:=by rw[<- seenE b1 (yK b3)];exact hc
    exact X _ _ hi (outClo hv hsv b8) h1 (notShown hsv b8)
  ·exact .inr (hd.mono hA)
 refine⟨fun i hi=>?_,fun j f i hj hf hi=>?_,fun k n=>?_,fun z hz=>?_,fun i f hi hs=>?_,fun z hz h1 i f hi hd=>?_,fun i f hi hsi h1 hn=>?_⟩
 ·exact(s2i.1 hi).elim (hv.low i) (hw.low i)
 ·exact s2i.2 ((s2i.1 hj).imp (fun q=>hv.clo j f i q hf hi) (fun q=>hw.clo j f i q hf hi))
 ·rw[hW,hv.has,hw.has]
  constructor
  ·rintro(⟨i,f,h1,h2,h3⟩ | ⟨i,f,h1,h2,h3⟩ | ⟨y,hy,hd⟩)
   ·exact⟨i,f,h1,s2i.2 (.inl h2),h3⟩
   ·exact⟨i,f,h1,s2i.2 (.inr h2),h3⟩
   ·obtain⟨d,h1,_,rfl,rfl⟩:=Vd.1 hd;have hyL:=((hP y).1 hy).1;rcases h1 with rfl | h1
    ·obtain⟨i,f,a1,a2,a3,_⟩:=hw.ev y hyL;exact⟨i,f,a1,s2i.2 (.inr a2),(yK a3).symm⟩
    ·obtain⟨_,_,i,g,_,_,_,_,b5,b6,_,_,b9⟩:=hw.kill hF hyL h1;exact⟨i,g,b5,s2i.2 (.inr b9),b6⟩
  ·rintro⟨i,f,h1,h2,h3⟩;rcases s2i.1 h2 with h2 | h2
   ·exact .inl ⟨i,f,h1,h2,h3⟩
   ·exact .inr (.inl ⟨i,f,h1,h2,h3⟩)
 ·rcases(hL z).1 hz with hz | ⟨hz,_⟩
  ·obtain⟨i,f,h1,h2,h3,h4⟩:=hw.ev z ((hP z).1 hz).1;exact⟨i,f,h1,s2i.2 (.inr h2),h3,h4.imp id fun⟨q,r⟩=>⟨q,hA i r⟩⟩
  ·obtain⟨i,f,h1,h2,h3,h4⟩:=hv.ev z hz;exact⟨i,f,h1,s2i.2 (.inl h2),h3,h4.imp id fun⟨q,r⟩=>⟨q,hA i r⟩⟩
 ·obtain⟨g,h1,h2,h3,h4⟩:=hs;rw[hi] at h1;cases h1
  cases hsv:sv i with
  | true=>
   obtain⟨z,hz,hd⟩:=hv.shown i f hi ⟨f,hi,hsv,h3,fun j hj=>h4 j (s2i.2 (.inl hj))⟩;refine⟨z,(hL z).2 (.inr ⟨hz,.inr fun y hy hc=>?_⟩),hd⟩;obtain⟨jy,fy,i',g',a1,a2,_,_,a5,a6,_,a8,_⟩:=hw.kill hF ((hP y).1 hy).1 hc;obtain⟨rfl,rfl⟩:=hF.same a5 hi (a6.trans hd);exact h4 jy (s2i.2 (.inr a2)) a8
  | false=>
   have hsw:=(s2i.1 h2).resolve_left (by rw[hsv];simp);obtain⟨z,hz,hd⟩:=hw.shown i f hi ⟨f,hi,hsw,h3,fun j hj=>h4 j (s2i.2 (.inr hj))⟩;exact⟨z,(hL z).2 (.inl ((hP z).2 ⟨hz,by rw[seenE hi hd];exact hsv⟩)),hd⟩
 ·rcases(hL z).1 hz with hz | ⟨hz,h2⟩
  ·obtain⟨hzw,hzs⟩:=(hP z).1 hz;obtain⟨g,a1,a2,a3,a4⟩:=hw.live z hzw h1 i f hi hd;refine⟨g,a1,s2i.2 (.inr a2),a3,fun j hj ho=>?_⟩;rcases s2i.1 hj with hj | hj
   ·have:=outClo hv hj ho;rw[seenE hi hd,this] at hzs;cases hzs
   ·exact a4 j hj ho
  ·obtain⟨g,a1,a2,a3,a4⟩:=hv.live z hz h1 i f hi hd;rw[hi] at a1;cases a1;refine⟨f,hi,s2i.2 (.inl a2),a3,fun j hj ho=>?_⟩;rcases s2i.1 hj with hj | hj
   ·exact a4 j hj ho
   ·rcases hw.dead i f hi (outClo hw hj ho) a3 (notShown hj ho) with⟨y,hy,hyk⟩ | ⟨i',g,x,b1,b2,b3,b4⟩
    ·cases hc:C.yf Wv y.dot.dev y.dot.n with
     | false=>exact h2.elim (fun q=>q h1) fun q=>q y ((hP y).2 ⟨hy,hc⟩) (by rw[hd];exact hyk)
     | true=>
      obtain⟨jy,fy,i',g',c1,_,c3,_,c5,c6,_,c8,_⟩:=hw.kill hF hy hyk;obtain⟨rfl,rfl⟩:=hF.same c5 hi c6;exact a4 jy (by rw[<- seenE c1 (yK c3)];exact hc) c8
    ·obtain⟨rfl,rfl⟩:=hF.same b1 hi b2;exact a4 x (hAv x b3) b4
 ·rcases s2i.1 hsi with hsv | hsw
  ·by_cases hsh:Xi Y sv i
   ·have:∃ j,s2 j=true/\Out Y j i:=Classical.byContradiction fun q=>hn ⟨f,hi,hsi,h1,fun j hj ho=>q ⟨j,hj,ho⟩⟩
    obtain⟨j,hj,ho⟩:=this;rcases s2i.1 hj with hj | hj
    ·exact(notShown hj ho hsh).elim
    ·exact YY i f hi (outClo hw hj ho) h1 (notShown hj ho)
   ·exact X i f hi hsv h1 hsh
  ·by_cases hsh:Xi Y sw i
   ·have:∃ j,s2 j=true/\Out Y j i:=Classical.byContradiction fun q=>hn ⟨f,hi,hsi,h1,fun j hj ho=>q ⟨j,hj,ho⟩⟩
    obtain⟨j,hj,ho⟩:=this;rcases s2i.1 hj with hj | hj
    ·exact X i f hi (outClo hv hj ho) h1 (notShown hj ho)
    ·exact(notShown hj ho hsh).elim
   ·exact YY i f hi hsw h1 hsh
end
theorem yTa : ∀ (P:List EV) (W:List PT) (L:List EV),(∀ x∈L,C.yf W x.dot.dev x.dot.n=true)->(∀ x∈P,yE x=true)->(∀ x∈P,C.yf W x.dot.dev x.dot.n=false) ->
  P.Pairwise (fun x y=>x.dot≠y.dot/\y.dot∉x.kills/\x.dot∉y.kills) ->
  (∀ x,x∈(P.foldl Vc (W,L)).2↔x∈P\/(x∈L/\(x.kind≠1\/∀ y∈P,x.dot∉y.kills)))/\(∀ k n,C.yf (P.foldl Vc (W,L)).1 k n=true↔C.yf W k n=true\/∃ y∈P,hD y k n=true)
 | [],W,L,_,_,_,_=>⟨fun x=>by simp,fun k n=>by simp⟩
 | e::P,W,L,hd,hg,hu,hp=>by
  obtain⟨hp1,hp2⟩:=List.pairwise_cons.1 hp;have h1:Vc (W,L) e=(W++C.yD (yB [e]),Xb L e):=by
   unfold Vc;rw[if_pos ⟨hg e (by simp),hu e (by simp)⟩]
  have hne:∀ x∈L,x.dot≠e.dot:=fun x hx he=>by
   have:=hd x hx;rw[he,hu e (by simp)] at this;cases this
  have hW':∀ k n,C.yf (W++C.yD (yB [e])) k n=(C.yf W k n||hD e k n):=fun k n=>by rw[C.ve];rfl
  have hge:=hg e (by simp);obtain⟨i1,i2⟩:=yTa P (W++C.yD (yB [e])) (Xb L e) (fun x hx=>by
    rw[hW',Bool.or_eq_true];rcases(Yx hne).1 hx with rfl | ⟨hx,_⟩
    ·exact .inr (Vd.2 ⟨x.dot,.inl rfl,G.Wm hge,rfl,rfl⟩)
    ·exact .inl (hd x hx)) (fun x hx=>hg x (by simp[hx])) (fun x hx=>by
    rw[hW',hu x (by simp[hx]),Bool.false_or,<- Bool.not_eq_true,Vd];rintro⟨d,h2,_,h3,h4⟩;have hdx:d=x.dot:=by cases d;cases hq:x.dot;rw[hq] at h3 h4;simp at h3 h4;simp[h3,h4]
    subst hdx;have:=hp1 x hx;exact h2.elim (fun q=>this.1 q.symm) this.2.1) hp2
  rw[List.foldl_cons,h1];refine⟨fun x=>?_,fun k n=>?_⟩
  ·rw[i1,Yx hne,List.mem_cons]
   constructor
   ·rintro(h | ⟨h | ⟨h,h2⟩,h3⟩)
    ·exact .inl (.inr h)
    ·exact .inl (.inl h)
    ·refine .inr ⟨h,?_⟩
     by_cases hk:x.kind=1
     ·right
      intro y hy;rcases List.mem_cons.1 hy with rfl | hy
      ·exact h2.resolve_left fun q=>q hk
      ·exact h3.resolve_left (fun q=>q hk) y hy
     ·exact .inl hk
   ·rintro((h | h) | ⟨h,h2⟩)
    ·subst h;exact .inr ⟨.inl rfl,.inr fun y hy=>(hp1 y hy).2.2⟩
    ·exact .inl h
    ·exact .inr ⟨.inr ⟨h,h2.imp id fun q=>q e (by simp)⟩,h2.imp id fun q y hy=>q y (by simp[hy])⟩
  ·rw[i2,hW',Bool.or_eq_true]
   constructor
   ·rintro((h | h) | ⟨y,hy,h⟩)
    ·exact .inl h
    ·exact .inr ⟨e,by simp,h⟩
    ·exact .inr ⟨y,by simp[hy],h⟩
   ·rintro(h | ⟨y,hy,h⟩)
    ·exact .inl (.inl h)
    ·rcases List.mem_cons.1 hy with rfl | hy
     ·exact .inl (.inr h)
     ·exact .inr ⟨y,hy,h⟩
open E (OkE yE wj)
open F (vf zu yB wk ZB bad1 YR Qm)
open G (yx Xb Vc zy vc wq Ve xV ya zt hD Vd yV jb uX vP uL vw XA Qq)
theorem ur{α:Type}[DecidableEq α]:∀ {l m:List α},l.Nodup->(∀ x∈l,x∈m)->l.length<=m.length
 | [],_,_,_=>Nat.zero_le _
 | x::r,m,hn,h=>by
  obtain⟨h1,h2⟩:=List.nodup_cons.1 hn;have hx:=h x (by simp);have:=ur (l:=r) (m:=m.erase x) h2 fun y hy=>(List.mem_erase_of_ne (fun e=>h1 (by subst e;exact hy))).2 (h y (by simp[hy]))
  rw[List.length_erase_of_mem hx] at this;have:=List.length_pos_of_mem hx;rw[List.length_cons];omega
theorem xFa{l:List DT}(h:D.Srt l):l.Nodup:=by
 refine List.Pairwise.imp ?_ h;intro a b hab e;rw[e,D.Xp] at hab;cases hab
structure Okb(W:List PT)(L:List EV):Prop where
 srt:wj L
 good:∀ e∈L,yE e=true
 dots:∀ d∈zu L,C.yf W d.dev d.n=true
 alive:∀ e∈L,e.kind=1->wk L e.dot=false
theorem Okb.aliveM{W:List PT}{L:List EV}(h:Okb W L){x:EV}(hx:x∈L)(h1:x.kind=1){y:EV}(hy:y∈L):x.dot∉y.kills:=fun hc=>by
 have:=h.alive x hx h1;rw[<- Bool.not_eq_true,G.Xa] at this;exact this ⟨y,hy,hc⟩
section
variable{Y:List yi}{A A':Nat->Prop}{s sv sw s2:Nat->Bool}{W Wv Ww W2:List PT}{L Lv Lw L2:List EV}{e:EV}
theorem jN(h:Bk Y A s W L)(ho:Okb W L):L.length<=Y.length:=by
 have h1:(L.map (·.dot)).Nodup:=G.Zq ho.srt;have:=ur (m:=Y.map (·.e.dot)) h1 fun d hd=>by
  obtain⟨x,hx,rfl⟩:=List.mem_map.1 hd;obtain⟨i,f,a1,_,a3,_⟩:=h.ev x hx;exact List.mem_map.2 ⟨f,List.mem_of_getElem? a1,(yK a3).symm⟩
 simpa using this
theorem yUa(hF:Facts Y)(h:Bk Y A s W L)(hk:e.kind=1\/e.kind=2):(wq L e).length<=Y.length:=by
 have h1:(wq L e).Nodup:=xFa (D.Vz _);have:=ur (m:=Y.map (·.e.dot)) h1 fun d hd=>by
  obtain⟨i,g,a1,a2,_⟩:=Xc hF h hk hd;exact List.mem_map.2 ⟨g,List.mem_of_getElem? a1,a2⟩
 simpa using this
theorem w5a(hF:Facts Y)(h:Bk Y A s W L)(ho:Okb W L)(hk:e.kind=1\/e.kind=2)(hg:yE e=true)(hl:Y.length<=200)(hnew:∀ (i:Nat) (f:yi),Y[i]?=some f->f.e.dot≠e.dot):yE (full (YV L s e))=true:=by
 have h1:=yUa (e:=e) hF h hk;have h2:D.YO (wq L e)=true:=D.qb.2 (D.Vz _);have h3:((wq L e).all fun d=>V.yC d&&!decide (d=e.dot))=true:=List.all_eq_true.2 fun d hd=>by
  rw[Bool.and_eq_true];refine⟨?_,?_⟩
  ·obtain⟨y,hy,_,_,_,h4⟩:=(vi hk).1 hd;rcases h4 with rfl | h4
   ·exact G.Wm (ho.good y hy)
   ·exact((G.XZ (ho.good y hy)).2.2 d h4).1
  ·obtain⟨i,g,a1,a2,_⟩:=Xc hF h hk hd;have:=hnew i g a1;rw[a2] at this;simp[this]
 unfold yE at hg ⊢;rw[Bool.and_eq_true,Bool.and_eq_true,Bool.and_eq_true] at hg ⊢;refine⟨hg.1,hg.2.1,?_⟩;show(decide ((wq L e).length<=256)&&(D.YO (wq L e)&&(wq L e).all fun d=>V.yC d&&!decide (d=e.dot)))=true;rw[h2,h3,Bool.and_true,Bool.and_true,decide_eq_true_eq];omega
theorem w6a(hF:Facts Y)(h:Bk Y A s W L)(hk:e.kind=1\/e.kind=2)(hb:e.kills=[])(hg:yE e=true)(hl:Y.length<=200)(hnew:∀ (i:Nat) (f:yi),Y[i]?=some f->f.e.dot≠e.dot) :
  C.yf W e.dot.dev e.dot.n=false/\Ve W L e=(full (YV L s e),0):=by
 have h1:=yUa (e:=e) hF h hk;have h2:C.yf W e.dot.dev e.dot.n=false:=by
  rw[<- Bool.not_eq_true,h.has];rintro⟨i,f,a1,_,a3⟩;exact hnew i f a1 a3
 have h3:vc e=e:=by cases e;simp at hb;subst hb;rfl
 refine⟨h2,?_⟩;unfold Ve;rw[h3,hg,h2,if_neg (by simp),if_neg (by simp),if_neg (by omega)]
 rfl
theorem xGa(hF:Facts Y)(hw:Bk Y A sw Ww Lw)(ho:Okb Ww Lw)(hl:Y.length<=4000)(y:List PT):ZB (uL Ww Lw y)=true:=by
 have hlen:=jN hw ho;have hf:=List.length_filter_le (fun x=>!zt y x) Lw;unfold ZB;rw[Bool.and_eq_true,Bool.and_eq_true,Bool.and_eq_true,Bool.and_eq_true,Bool.and_eq_true];refine⟨?_,?_,?_,?_,?_,?_⟩
 ·exact(C.Yt _).2 (C.xr rfl _ _)
 ·exact(C.Yt _).2 (C.yp _)
 ·rw[decide_eq_true_eq];refine C.JA fun k n h=>?_
  show C.yf (C.zb Ww) k n=true;rw[C.zx];have:C.yf (C.opC (·&&·) y Ww) k n=true:=h;rw[C.vN rfl,Bool.and_eq_true] at this;exact this.2
 ·rw[decide_eq_true_eq];show(Lw.filter fun x=>!zt y x).length<=4096;omega
 ·refine List.all_eq_true.2 fun z hz=>?_
  have hx:(Lw.filter fun x=>!zt y x)[z.2]?=some z.1:=List.mem_zipIdx_iff_getElem?.1 hz;have hm:=List.mem_of_getElem? hx;obtain⟨hm1,hm2⟩:=List.mem_filter.1 hm;unfold bad1;rw[ho.good _ hm1,show YR (uL Ww Lw y).events z.2 z.1=false from G.zca (G.zR ho.srt _) hx];have h1:C.yf (uL Ww Lw y).from_ z.1.dot.dev z.1.dot.n=false:=by
   show C.yf (C.opC (·&&·) y Ww) _ _=false;rw[C.vN rfl];have:zt y z.1=false:=by simpa using hm2
   have h5:C.yf y z.1.dot.dev z.1.dot.n=false:=this;rw[h5,Bool.false_and]
  rw[h1]
  by_cases hk:z.1.kind=1
  ·have:wk (uL Ww Lw y).events z.1.dot=false:=by
    rw[<- Bool.not_eq_true,G.Xa];rintro⟨q,hq,hc⟩;exact ho.aliveM hm1 hk (List.mem_filter.1 hq).1 hc
   rw[this];simp
  ·simp[hk]
 ·rw[decide_eq_true_eq];unfold Qm;rw[List.filter_eq_nil_iff.2 fun d hd=>?_]
  ·rfl
  ·have:d∈zu (Lw.filter fun x=>!zt y x):=D.ZS.1 hd;obtain⟨q,hq,h4⟩:=yV.1 this;show ¬ (!C.yf (C.zb Ww) d.dev d.n)=true;rw[C.zx,ho.dots d (yV.2 ⟨q,(List.mem_filter.1 hq).1,h4⟩)];simp
theorem xHa(Wv Ww:List PT)(Lw:List EV):Qq (uL Ww Lw (C.zb Wv)) Wv=true:=by
 unfold Qq;rw[decide_eq_true_eq];refine C.JA fun k n h=>?_
 have:C.yf (C.opC (·&&·) (C.zb Wv) Ww) k n=true:=h;rw[C.vN rfl,Bool.and_eq_true,C.zx] at this;exact this.1
theorem xIa(hF:Facts Y)(hw:Bk Y A sw Ww Lw)(ho:Okb Ww Lw)(hl:Y.length<=4000):XA Wv (uL Ww Lw (C.zb Wv))=0 /\
  vw (Wv,Lv) (uL Ww Lw (C.zb Wv))=(((Lw.filter fun x=>!zt (C.zb Wv) x).foldl Vc (Wv,Lv)).1++C.zb Ww,((Lw.filter fun x=>!zt (C.zb Wv) x).foldl Vc (Wv,Lv)).2):=by
 have h1:=xGa hF hw ho hl (C.zb Wv);have h2:=xHa Wv Ww Lw;unfold XA vw;rw[if_pos h1,if_pos h2,if_pos ⟨h1,h2⟩];exact⟨rfl,rfl⟩
theorem yVa(hF:Facts Y)(hv:Bk Y A sv Wv Lv)(hw:Bk Y A sw Ww Lw)(ho:Okb Ww Lw) :
  (∀ x,x∈((Lw.filter fun x=>!zt (C.zb Wv) x).foldl Vc (Wv,Lv)).2↔x∈(Lw.filter fun x=>!zt (C.zb Wv) x)\/(x∈Lv/\(x.kind≠1\/∀ y∈(Lw.filter fun x=>!zt (C.zb Wv) x),x.dot∉y.kills))) /\
  (∀ k n,C.yf (((Lw.filter fun x=>!zt (C.zb Wv) x).foldl Vc (Wv,Lv)).1++C.zb Ww) k n=true↔C.yf Wv k n=true\/C.yf Ww k n=true\/∃ y∈(Lw.filter fun x=>!zt (C.zb Wv) x),hD y k n=true):=by
 have hP:∀ x∈(Lw.filter fun x=>!zt (C.zb Wv) x),x∈Lw/\C.yf Wv x.dot.dev x.dot.n=false:=fun x hx=>by
  obtain⟨h1,h2⟩:=List.mem_filter.1 hx;refine⟨h1,?_⟩;have:C.yf (C.zb Wv) x.dot.dev x.dot.n=false:=by simpa[zt] using h2
  rwa [C.zx] at this
 have hnk:∀ x∈Lw,∀ y∈Lw,x.dot∉y.kills:=fun x hx y hy hc=>by
  obtain⟨_,_,i,g,_,_,_,_,a5,a6,a7,_,_⟩:=hw.kill hF hy hc;obtain⟨j,f,b1,_,b3,_⟩:=hw.ev x hx;obtain⟨rfl,rfl⟩:=hF.same a5 b1 (a6.trans (yK b3));exact ho.aliveM hx (by rw[vy b3];exact a7) hy hc
 have hsrt:wj (Lw.filter fun x=>!zt (C.zb Wv) x):=G.zR ho.srt _;obtain⟨i1,i2⟩:=yTa (Lw.filter fun x=>!zt (C.zb Wv) x) Wv Lv (fun x hx=>hv.seen hx) (fun x hx=>ho.good x (hP x hx).1) (fun x hx=>(hP x hx).2) (List.Pairwise.imp_of_mem (fun {a b} ha hb h=>by
  refine⟨fun e=>?_,hnk b (hP b hb).1 a (hP a ha).1,hnk a (hP a ha).1 b (hP b hb).1⟩;rw[e,D.Xp] at h;cases h) hsrt)
 refine⟨i1,fun k n=>?_⟩;rw[C.ve,Bool.or_eq_true,i2,C.zx]
 constructor
 ·rintro((h | h) | h)
  ·exact .inl h
  ·exact .inr (.inr h)
  ·exact .inr (.inl h)
 ·rintro(h | h | h)
  ·exact .inl (.inl h)
  ·exact .inr h
  ·exact .inl (.inr h)
theorem yWa(hF:Facts Y)(h:Bk Y A s W L){i:Nat}{f:yi}(hi:Y[i]?=some f):(∃ x∈yx L,x.dot=f.e.dot)↔Xi Y s i:=by
 constructor
 ·rintro⟨x,hx,hd⟩;obtain⟨h1,h2⟩:=zy.1 hx;exact h.live x h1 h2 i f hi hd
 ·intro hs;obtain⟨z,hz,hd⟩:=h.shown i f hi hs;obtain⟨g,b1,_,b3,_⟩:=hs;rw[hi] at b1;cases b1;obtain⟨j,q,a1,_,a3,_⟩:=h.ev z hz;obtain⟨rfl,rfl⟩:=hF.same a1 hi ((yK a3).symm.trans hd);exact⟨z,zy.2 ⟨hz,by rw[vy a3];exact b3⟩,hd⟩
theorem UD(hF:Facts Y)(h:Bk Y A s W L)(ho:Okb W L){p:Nat->Bool}{n:Nat}(hn:Y.length<=n)(hp:∀ i,p i=true↔Xi Y s i):(yx L).length=((List.range n).filter p).length:=by
 have h1:((yx L).map (·.dot)).Nodup:=G.Zq (G.zR ho.srt _)
 let dt:Nat->DT:=fun i=>(Y[i]?.map fun f=>f.e.dot).getD ⟨0,0⟩
 have hdt:∀ {i:Nat} {f:yi},Y[i]?=some f->dt i=f.e.dot:=fun {i f} hi=>by simp[dt,hi]
 have h2:(((List.range n).filter p).map dt).Nodup:=by
  refine List.pairwise_map.2 (List.Pairwise.imp_of_mem (fun {a b} ha hb hab e=>?_) (List.nodup_range.filter p));obtain⟨f,hf,_⟩:=(hp a).1 (List.mem_filter.1 ha).2;obtain⟨g,hg,_⟩:=(hp b).1 (List.mem_filter.1 hb).2;rw[hdt hf,hdt hg] at e;exact hab (hF.same hf hg e).1
 have e1:=ur h1 (m:=((List.range n).filter p).map dt) fun d hd=>by
  obtain⟨x,hx,rfl⟩:=List.mem_map.1 hd;obtain⟨i,f,a1,_,a3,_⟩:=h.ev x (zy.1 hx).1;have hs:=(yWa hF h a1).1 ⟨x,hx,yK a3⟩;have:=Zl a1;exact List.mem_map.2 ⟨i,List.mem_filter.2 ⟨List.mem_range.2 (by omega),(hp i).2 hs⟩,by rw[hdt a1];exact(yK a3).symm⟩
 have e2:=ur h2 (m:=(yx L).map (·.dot)) fun d hd=>by
  obtain⟨i,hi,rfl⟩:=List.mem_map.1 hd;have hs:=(hp i).1 (List.mem_filter.1 hi).2;obtain⟨f,hf,_⟩:=id hs;obtain⟨x,hx,hxd⟩:=(yWa hF h hf).2 hs;exact List.mem_map.2 ⟨x,hx,by rw[hdt hf];exact hxd⟩
 rw[List.length_map,List.length_map] at e1 e2;omega
end
def All(S:Nat->Nat->Bool)(i:Nat):Prop:=∀ k,k < 3->S k i=true
def upd{α:Type}(g:Nat->α)(w:Nat)(v:α):Nat->α:=fun k=>if k=w then v else g k
theorem zF{α:Type}(g:Nat->α)(w:Nat)(v:α):upd g w v w=v:=if_pos rfl
theorem yA{α:Type}(g:Nat->α){w k:Nat}(v:α)(h:k≠w):upd g w v k=g k:=if_neg h
structure St(Y:List yi)(S:Nat->Nat->Bool)(W:Nat->List PT)(L:Nat->List EV):Prop where
 facts:Facts Y
 tr:Tr Y (All S)
 bk:∀ k,k < 3->Bk Y (All S) (S k) (W k) (L k)
theorem St.nil : St [] (fun _ _=>false) (fun _=>[]) (fun _=>[]) where
 facts:=⟨fun _ _ _ _ h=>by simp at h,fun _ _ h=>by simp at h,fun _ _ h=>by simp at h,fun _ _ _ h=>by simp at h,fun _ _ _ _ _ h=>by simp at h,fun _ _ _ h=>by simp at h⟩
 tr _ _ _ _ _ h:=by simp at h
 bk _ _:=⟨fun _ h=>(by cases h),fun _ _ _ h=>(by cases h),fun k n=>by simp[C.hasC_nil],fun _ h=>(by cases h),fun _ _ h=>by simp at h,fun _ h=>(by cases h),fun _ _ h=>by simp at h⟩
section
variable{Y:List yi}{S:Nat->Nat->Bool}{W:Nat->List PT}{L:Nat->List EV}{e:EV}{w v:Nat}
theorem Xd{s2:Nat->Bool}(h:∀ i,S v i=true->s2 i=true):∀ i,All S i->All (upd S v s2) i:=fun i ha k hk=>by
 by_cases e:k=v
 ·subst e;rw[zF];exact h i (ha k hk)
 ·rw[yA _ _ e];exact ha k hk
theorem St.make(h:St Y S W L)(hw:w < 3)(ho:Okb (W w) (L w))(hk:e.kind=1\/e.kind=2)(hb:e.kills=[])(hg:V.yC e.dot=true)(hnew:∀ (i:Nat) (f:yi),Y[i]?=some f->f.e.dot≠e.dot) :
  St (Y++[YV (L w) (S w) e]) (upd S w fun i=>S w i||decide (i=Y.length)) (upd W w (W w++C.yD (yB [full (YV (L w) (S w) e)]))) (upd L w (Xb (L w) (full (YV (L w) (S w) e)))) where
 facts:=JD h.facts (h.bk w hw) hk hb hnew
 tr:=tr_snoc h.facts h.tr (h.bk w hw) (Xd fun i hi=>by rw[hi];rfl) hk hnew
 bk k hk3:=by
  by_cases e1:k=w
  ·subst e1;rw[zF,zF,zF];exact bk_make h.facts (h.bk k hk3) (Xd fun i hi=>by rw[hi];rfl) hk hb hg hnew (fun x hx h1 y hy=>ho.aliveM hx h1 hy) ho.good fun _=>rfl
  ·rw[yA _ _ e1,yA _ _ e1,yA _ _ e1];exact bk_snoc h.facts (h.bk k hk3) (Xd fun i hi=>by rw[hi];rfl) _ hnew
theorem St.tell(h:St Y S W L)(hw:w < 3)(hv:v < 3)(ho:Okb (W w) (L w)) :
  St Y (upd S v fun i=>S v i||S w i) (upd W v ((((L w).filter fun x=>!zt (C.zb (W v)) x).foldl Vc (W v,L v)).1++C.zb (W w))) (upd L v (((L w).filter fun x=>!zt (C.zb (W v)) x).foldl Vc (W v,L v)).2) where
 facts:=h.facts
 tr:=h.tr.mono (Xd fun i hi=>by rw[hi];rfl)
 bk k hk3:=by
  by_cases e1:k=v
  ·subst e1;rw[zF,zF,zF];obtain⟨t1,t2⟩:=yVa h.facts (h.bk k hk3) (h.bk w hw) ho;refine bk_tell h.facts h.tr (h.bk k hk3) (h.bk w hw) (Xd fun i hi=>by rw[hi];rfl) (fun i hi=>hi k hk3) (fun x=>?_) (fun _=>rfl) t1 t2;rw[List.mem_filter];simp only[zt,C.zx,Bool.not_eq_true']
  ·rw[yA _ _ e1,yA _ _ e1,yA _ _ e1];exact(h.bk k hk3).mono (Xd fun i hi=>by rw[hi];rfl)
end
open E (OkE yE wj)
open F (vf zu yB wk ZB bad1 YR Qm)
open G (yx wn Xb Vc zy wP vc wq Ve xV ya zt hD Vd yV jb uX vP uL vw XA Qq)
structure Fl(Y:List yi)(s:Nat->Bool)(L:List EV):Prop where
 tomb:∀ (i:Nat) (f:yi),Y[i]?=some f->s i=true->f.e.kind=2->∃ e∈L,e.dot=f.e.dot
 whole:∀ e∈L,∀ (i:Nat) (f:yi),Y[i]?=some f->e.dot=f.e.dot->e.kills=f.ks
section
variable{Y:List yi}{A A':Nat->Prop}{s sv sw s2:Nat->Bool}{W Wv Ww W2:List PT}{L Lv Lw L2:List EV}{e:EV}
theorem fl_snoc(hb:Bk Y A s W L)(h:Fl Y s L)(f:yi)(hnew:∀ (i:Nat) (g:yi),Y[i]?=some g->g.e.dot≠f.e.dot):Fl (Y++[f]) s L where
 tomb i g hi hs hk:=by
  have:=hb.low i hs;exact h.tomb i g ((zO.1 hi).resolve_right (by omega)) hs hk
 whole e he i g hi hd:=by
  rcases zO.1 hi with hi | ⟨rfl,rfl⟩
  ·exact h.whole e he i g hi hd
  ·obtain⟨j,q,a1,_,a3,_⟩:=hb.ev e he;exact(hnew j q a1 ((yK a3).symm.trans hd)).elim
theorem fl_make(hF:Facts Y)(hb:Bk Y A s W L)(h:Fl Y s L)(hnew:∀ (i:Nat) (f:yi),Y[i]?=some f->f.e.dot≠e.dot)(hs2:∀ i,s2 i=(s i||decide (i=Y.length))):Fl (Y++[YV L s e]) s2 (Xb L (full (YV L s e))):=by
 have hne:∀ x∈L,x.dot≠(full (YV L s e)).dot:=fun x hx he=>by
  obtain⟨i,f,h1,_,h3,_⟩:=hb.ev x hx;exact hnew i f h1 ((yK h3).symm.trans he)
 refine⟨fun i f hi hs hk=>?_,fun z hz i f hi hd=>?_⟩
 ·rcases zO.1 hi with hi | ⟨rfl,rfl⟩
  ·have:=Zl hi;have hs':s i=true:=by
    rw[hs2] at hs;simpa[show i≠Y.length by omega] using hs
   obtain⟨z,hz,hd⟩:=h.tomb i f hi hs' hk;obtain⟨j,q,a1,_,a3,_⟩:=hb.ev z hz;obtain⟨rfl,rfl⟩:=hF.same a1 hi ((yK a3).symm.trans hd);exact⟨z,(Yx hne).2 (.inr ⟨hz,.inl (by rw[vy a3];omega)⟩),hd⟩
  ·exact⟨_,(Yx hne).2 (.inl rfl),rfl⟩
 ·rcases(Yx hne).1 hz with rfl | ⟨hz,_⟩ <;> rcases zO.1 hi with hi | ⟨rfl,rfl⟩
  ·exact(hnew i f hi hd.symm).elim
  ·rfl
  ·exact h.whole z hz i f hi hd
  ·exact(hne z hz hd).elim
theorem fl_tell(hF:Facts Y)(hv:Bk Y A sv Wv Lv)(hw:Bk Y A sw Ww Lw)(fv:Fl Y sv Lv)(fw:Fl Y sw Lw){P:List EV}(hP:∀ x,x∈P↔x∈Lw/\C.yf Wv x.dot.dev x.dot.n=false)
  (hs2:∀ i,s2 i=(sv i||sw i)) (hL:∀ x,x∈L2↔x∈P\/(x∈Lv/\(x.kind≠1\/∀ y∈P,x.dot∉y.kills))):Fl Y s2 L2:=by
 refine⟨fun i f hi hs hk=>?_,fun z hz i f hi hd=>?_⟩
 ·have kindOf:∀ {t:Nat->Bool} {Wt:List PT} {Lt:List EV},Bk Y A t Wt Lt->∀ {z:EV},z∈Lt->z.dot=f.e.dot->z.kind=2:=fun {t Wt Lt} hb {z} hz hd=>by
   obtain⟨j,q,a1,_,a3,_⟩:=hb.ev z hz;obtain⟨rfl,rfl⟩:=hF.same a1 hi ((yK a3).symm.trans hd);rw[vy a3];exact hk
  cases hsv:sv i with
  | true=>
   obtain⟨z,hz,hd⟩:=fv.tomb i f hi hsv hk;exact⟨z,(hL z).2 (.inr ⟨hz,.inl (by have:=kindOf hv hz hd;omega)⟩),hd⟩
  | false=>
   have hsw:sw i=true:=by rw[hs2,hsv] at hs;simpa using hs
   obtain⟨z,hz,hd⟩:=fw.tomb i f hi hsw hk;exact⟨z,(hL z).2 (.inl ((hP z).2 ⟨hz,by rw[hd,hv.unseen hF hi];exact hsv⟩)),hd⟩
 ·rcases(hL z).1 hz with hz | ⟨hz,_⟩
  ·exact fw.whole z ((hP z).1 hz).1 i f hi hd
  ·exact fv.whole z hz i f hi hd
theorem yXa(hF:Facts Y)(hb:Bk Y A s W L)(h:Fl Y s L){x:EV}(hx:x∈L){i:Nat}{f:yi}(hi:Y[i]?=some f)(hd:x.dot=f.e.dot):x=full f:=by
 obtain⟨j,q,a1,_,a3,_⟩:=hb.ev x hx;obtain⟨rfl,rfl⟩:=hF.same a1 hi ((yK a3).symm.trans hd);have hk:=h.whole x hx _ _ hi hd;unfold full;rw[<- a3,<- hk]
 cases x;rfl
theorem w7a(hF:Facts Y)(hv:Bk Y A sv Wv Lv)(hw:Bk Y A sw Ww Lw)(fv:Fl Y sv Lv)(fw:Fl Y sw Lw)(ov:Okb Wv Lv)(ow:Okb Ww Lw)(hs:∀ i,sv i=sw i):C.zb Wv=C.zb Ww/\Lv=Lw:=by
 have hss:sv=sw:=funext hs;subst hss;refine⟨C.Uy fun k n=>?_,G.vg ov.srt ow.srt fun x=>?_⟩
 ·rw[Bool.eq_iff_iff,hv.has,hw.has]
 ·have one:∀ {W1 W2:List PT} {L1 L2:List EV},Bk Y A sv W1 L1->Bk Y A sv W2 L2->Fl Y sv L1->Fl Y sv L2->x∈L1->x∈L2:=fun {W1 W2 L1 L2} h1 h2 f1 f2 hx=>by
   obtain⟨i,f,a1,a2,a3,_⟩:=h1.ev x hx;have hd:=yK a3;have hex:∃ z:EV,z∈L2/\z.dot=f.e.dot:=by
    rcases hF.kind i f a1 with hk | hk
    ·obtain⟨z,hz,hzd⟩:=h2.shown i f a1 (h1.live x hx (by rw[vy a3];exact hk) i f a1 hd);exact⟨z,hz,hzd⟩
    ·obtain⟨z,hz,hzd⟩:=f2.tomb i f a1 a2 hk;exact⟨z,hz,hzd⟩
   obtain⟨z,hz,hzd⟩:=hex;rw[yXa hF h1 f1 hx a1 hd,<- yXa hF h2 f2 hz a1 hzd];exact hz
  exact⟨one hv hw fv fw,one hw hv fw fv⟩
theorem w8a(hb:Bk Y A s W L){y:List PT}(hy:∀ k n,C.yf y k n=C.yf W k n):∀ x∈xV y L,x.kind=1:=by
 intro z hz;unfold xV at hz;obtain⟨x,hx,rfl⟩:=List.mem_map.1 hz;obtain⟨h1,h2⟩:=List.mem_filter.1 hx;rw[G.Zr];have:zt y x=true:=by unfold zt;rw[hy];exact hb.seen h1
 rw[this] at h2;simpa using h2
end
end Go.Ep.M.T
namespace Go.Ep.M.T
open Go
open E (OkE yE wj)
open F (vf zu yB)
open G (yx zy)
def mbit(m:Int)(j:Nat):Bool:=m.toNat.testBit j
structure Msk(m:Int):Prop where
 lo:0<=m
 hi:m < 18446744073709551616
structure Fs(l:List L20fact)(Y:List yi):Prop where
 len:l.length=Y.length
 sml:l.length<=60
 at_:∀ (j:Nat) (q:L20fact) (f:yi),l[j]?=some q->Y[j]?=some f->q.e_=f.e/\Msk q.saw/\∀ k,mbit q.saw k=f.saw k
theorem Fs.get{l:List L20fact}{Y:List yi}(h:Fs l Y){j:Nat}(hj:j < l.length):∃ q f,l[j]?=some q/\Y[j]?=some f/\q.e_=f.e/\Msk q.saw/\∀ k,mbit q.saw k=f.saw k:=by
 have h1:=List.getElem?_eq_getElem hj;have h2:=List.getElem?_eq_getElem (show j < Y.length by have:=h.len;omega);obtain⟨a,b,c⟩:=h.at_ j _ _ h1 h2;exact⟨_,_,h1,h2,a,b,c⟩
section
variable{l:List L20fact}{Y:List yi}{m:Int}{s:Nat->Bool}
end
end Go.Ep.M.T
namespace Go.Ep.M.T
open Go
open E (OkE yE wj)
open F (vf zu yB wk ZB OkD)
open G (Rep yx zy Xb Vc Ve xV zt uL vw XA)
section
variable{l:List L20fact}{Y:List yi}{m:Int}{s:Nat->Bool}
end
abbrev Bkt:=List PT×Bool×List (DT×EV)×Bool×List (DT×EV)
def Rk(n:Nat)(W:List PT)(L:List EV)(t:Bkt):Prop:=∃ xc,Rep n W t.1 xc t.2.2.2.1 t.2.2.2.2 t.2.1 t.2.2.1 L
section
variable{Y:List yi}{A:Nat->Prop}{s:Nat->Bool}{n:Nat}{W:List PT}{L:List EV}{t:Bkt}
theorem Rk.okb(h:Rk n W L t):Okb W L:=by
 obtain⟨xc,hR⟩:=h;exact⟨hR.srt,fun e he=>(hR.good e he).1,hR.dots,hR.alive⟩
theorem Bk.wc{W2:List PT}(h:Bk Y A s W L)(hW:∀ k n,C.yf W2 k n=C.yf W k n):Bk Y A s W2 L:={ h with has:=fun k n=>by rw[hW];exact h.has k n }
theorem renorm(h:Bk Y A s W L)(hr:Rk n W L t)(hl:Y.length<=60):Rk 200 (C.zb W) L t:=by
 obtain⟨xc,hR⟩:=hr
 let ds:List DT:=Y.zipIdx.filterMap fun y=>if s y.2=true then some y.1.e.dot else none
 have hds:ds.length<=60:=by
  have:=List.length_filterMap_le (fun y:yi×Nat=>if s y.2=true then some y.1.e.dot else none) Y.zipIdx;rw[List.length_zipIdx] at this;show(Y.zipIdx.filterMap fun y=>if s y.2=true then some y.1.e.dot else none).length<=60;omega
 have hmem:∀ d,d∈ds↔∃ (i:Nat) (f:yi),Y[i]?=some f/\s i=true/\f.e.dot=d:=fun d=>by
  show d∈Y.zipIdx.filterMap _↔_;rw[List.mem_filterMap]
  constructor
  ·rintro⟨y,hy,h1⟩;have:=List.mem_zipIdx_iff_getElem?.1 hy
   by_cases hs:s y.2=true
   ·rw[if_pos hs] at h1;cases h1;exact⟨y.2,y.1,this,hs,rfl⟩
   ·rw[if_neg hs] at h1;cases h1
  ·rintro⟨i,f,h1,h2,h3⟩;exact⟨(f,i),List.mem_zipIdx_iff_getElem?.2 h1,by simp[h2,h3]⟩
 have hhas:∀ k n,C.yf W k n=C.yf (C.yD ds) k n:=fun k n=>by
  rw[Bool.eq_iff_iff,C.qM]
  constructor
  ·intro hw;have hp:=C.wQa hw;obtain⟨i,f,h1,h2,h3⟩:=(h.has k n).1 hw;exact⟨⟨k,n⟩,(hmem _).2 ⟨i,f,h1,h2,h3⟩,V.xK.2 ⟨by show 1<=k;omega,hp.2.1,hp.2.2⟩,rfl,rfl⟩
  ·rintro⟨d,h1,_,rfl,rfl⟩;obtain⟨i,f,h2,h3,h4⟩:=(hmem d).1 h1;exact(h.has _ _).2 ⟨i,f,h2,h3,h4⟩
 have e:C.zb W=C.zb (C.yD ds):=C.Uy hhas;have l1:=C.vu (C.yD ds);have l2:=C.vv (C.yD ds);have l3:=C.vO ds;have l4:=C.XX ds;have l5:=jN h ⟨hR.srt,fun e he=>(hR.good e he).1,hR.dots,hR.alive⟩;exact⟨xc,{ hR with
  ctx:=by rw[hR.ctx,C.ub (C.yp W)]
  xctx:=fun k n=>by rw[C.zx];exact hR.xctx k n
  dots:=fun d hd=>by rw[C.zx];exact hR.dots d hd
  wl:=by rw[e];omega
  wt:=by rw[e];omega
  ll:=by omega }⟩
end
structure Inv(i:Nat)(fs:List L20fact)(nx st:Nat->Int)(bk:Nat->Bkt)(Y:List yi)(S:Nat->Nat->Bool)(W:Nat->List PT)(L:Nat->List EV):Prop where
 st_:St Y S W L
 fs_:Fs fs Y
 len:Y.length<=i
 m:∀ k,k < 3->Msk (st k)/\∀ j,mbit (st k) j=S k j
 nx_:∀ k,k < 3->0<=nx k/\nx k<=i/\∀ (j:Nat) (f:yi),Y[j]?=some f->f.e.dot.dev=(k:Int)+1->f.e.dot.n<=nx k
 rk:∀ k,k < 3->Rk 200 (W k) (L k) (bk k)
theorem St.wc{Y:List yi}{S:Nat->Nat->Bool}{W W2:Nat->List PT}{L:Nat->List EV}(h:St Y S W L)(hW:∀ q k n,C.yf (W2 q) k n=C.yf (W q) k n):St Y S W2 L:=
 ⟨h.facts,h.tr,fun k hk=>(h.bk k hk).wc (hW k)⟩
theorem yYa{W:Nat->List PT}{w:Nat}{V:List PT}:∀ q k n,C.yf (upd W w (C.zb V) q) k n=C.yf (upd W w V q) k n:=fun q k n=>by
 by_cases e:q=w
 ·subst e;rw[zF,zF,C.zx]
 ·rw[yA _ _ e,yA _ _ e]
section
variable{i:Nat}{fs:List L20fact}{nx st:Nat->Int}{bk:Nat->Bkt}{Y:List yi}{S:Nat->Nat->Bool}{W:Nat->List PT}{L:Nat->List EV}{w v:Nat}{e:EV}
end
end Go.Ep.M.T
namespace Go.Ep.M.T
open Go
open E (OkE yE wj)
open F (vf zu yB wk ZB OkD)
open G (Rep yx zy Xb Vc Ve xV zt uL vw XA)
theorem bindE{α β:Type}{m:M α}{f:α->M β}{Q:α->Prop}{R:β->Prop}(h:∃ a,m=pure a/\Q a)(k:∀ a,Q a->∃ b,f a=pure b/\R b):∃ b,m.bind f=pure b/\R b:=by
 obtain⟨a,rfl,h⟩:=h;rw[zA];exact k a h
structure w9a(x:L20Deed):Prop where
 kind:0<=x.kind/\x.kind<=255
 who:0<=x.who/\x.who<=255
 whom:0<=x.whom/\x.whom<=255
 cid:0<=x.cid/\x.cid<=255
 field:0<=x.field/\x.field<=255
theorem rem3{n:Int}(h:0<=n/\n<=100000):(IntKind.i64.wrap (Int.tmod n 3)=0\/IntKind.i64.wrap (Int.tmod n 3)=1\/IntKind.i64.wrap (Int.tmod n 3)=2)/\(IntKind.u64.wrap (Int.tmod n 3)=0\/IntKind.u64.wrap (Int.tmod n 3)=1\/IntKind.u64.wrap (Int.tmod n 3)=2):=by
 rw[Int.tmod_eq_emod_of_nonneg h.1,Wc (by omega) (by omega),Qr (by omega) (by omega)];exact⟨by omega,by omega⟩
def jO(dev n kd cid fl:Int):EV:=⟨⟨IntKind.u16.wrap dev,IntKind.u64.wrap (n+1)⟩,kd,IntKind.u64.wrap (281474976710657+IntKind.u64.wrap (Int.tmod cid 3)),fl,⟨#[]⟩,[]⟩
theorem jP{dev n kd cid fl:Int}(hdev:1<=dev/\dev<=3)(hn:0<=n/\n<=1000)(hc:0<=cid/\cid<=255)(hk:(kd=1/\(fl=1\/fl=2))\/(kd=2/\fl=0)) :
  (jO dev n kd cid fl).dot.dev=dev/\(jO dev n kd cid fl).dot.n=n+1/\yE (jO dev n kd cid fl)=true/\OkE (jO dev n kd cid fl):=by
 have d1:IntKind.u16.wrap dev=dev:=wU16 (by omega) (by omega);have d2:IntKind.u64.wrap (n+1)=n+1:=Qr (by omega) (by omega);have d3:∃ r,IntKind.u64.wrap (281474976710657+IntKind.u64.wrap (Int.tmod cid 3))=281474976710657+r/\0<=r/\r<=2:=by
  have:=(rem3 (n:=cid) ⟨hc.1,by omega⟩).2;refine⟨IntKind.u64.wrap (Int.tmod cid 3),Qr (by omega) (by omega),by omega,by omega⟩
 obtain⟨r,d3,r0,r1⟩:=d3;unfold jO;rw[d1,d2,d3];refine⟨rfl,rfl,?_,⟨by show 0<=dev;omega,by show dev<=65535;omega,by show 0<=n+1;omega,by show n+1<=_;omega⟩,by show 0<=kd/\kd<=255;omega,by show 0<=281474976710657+r/\281474976710657+r<=18446744073709551615;omega,by show 0<=fl/\fl<=255;omega,by show(⟨#[]⟩:ByteArray).size<=1000000000;decide,(fun d hd=>nomatch hd),Nat.zero_le _⟩;unfold yE;rw[Bool.and_eq_true,Bool.and_eq_true,Bool.and_eq_true];refine⟨⟨?_,?_⟩,?_,rfl⟩
 ·refine V.xK.2 ⟨?_,?_,?_⟩
  ·show 1<=(281474976710657+r) / 281474976710656;omega
  ·show 1<=(281474976710657+r) % 281474976710656;omega
  ·show(281474976710657+r) % 281474976710656<=_;omega
 ·exact V.xK.2 ⟨by show 1<=dev;omega,by show 1<=n+1;omega,by show n+1<=_;omega⟩
 ·have ht:E.qc ⟨#[]⟩=true:=by decide
  have hn:E.Ql ⟨#[]⟩=true:=by decide
  unfold E.woa;show((decide (kd=1)&&(E.Qk fl&&E.qc ⟨#[]⟩))||(decide (kd=2)&&(decide (fl=0)&&E.Ql ⟨#[]⟩)))=true;rw[ht,hn];rcases hk with⟨rfl,rfl | rfl⟩ | ⟨rfl,rfl⟩ <;> decide
theorem deed_kf(x:L20Deed)(hx:w9a x):∃ kd fl:Int,(cond (decide (x.kind=2)) (pure ((2:Int),(0:Int))) (pure ((1:Int),IntKind.u8.wrap (1+Int.tmod x.field 2))):M (Int×Int))=pure (kd,fl)/\((kd=1/\(fl=1\/fl=2))\/(kd=2/\fl=0)):=by
 by_cases h:x.kind=2
 ·exact⟨2,0,by rw[decide_eq_true h];rfl,.inr ⟨rfl,rfl⟩⟩
 ·refine⟨1,IntKind.u8.wrap (1+Int.tmod x.field 2),by rw[decide_eq_false h];rfl,.inl ⟨rfl,?_⟩⟩;have:=hx.field;rw[Int.tmod_eq_emod_of_nonneg this.1,wU8 (by omega) (by omega)];omega
end Go.Ep.M.T
namespace Go.Ep.M.T
open Go
open E (OkE yE wj)
open F (vf zu yB wk ZB OkD)
open G (Rep yx wn zy wP Xb Vc Ve xV zt uL vw XA)
structure Inw(i:Nat)(nx:Nat->Int)(bk:Nat->Bkt)(Y:List yi)(S:Nat->Nat->Bool)(W:Nat->List PT)(L:Nat->List EV):Prop where
 st_:St Y S W L
 len:Y.length<=i
 nx_:∀ k,k < 3->0<=nx k/\nx k<=i/\∀ (j:Nat) (f:yi),Y[j]?=some f->f.e.dot.dev=(k:Int)+1->f.e.dot.n<=nx k
 rk:∀ k,k < 3->Rk 200 (W k) (L k) (bk k)
 fl:∀ k,k < 3->Fl Y (S k) (L k)
section
variable{i:Nat}{nx:Nat->Int}{bk:Nat->Bkt}{Y:List yi}{S:Nat->Nat->Bool}{W:Nat->List PT}{L:Nat->List EV}{w v:Nat}{e:EV}
theorem VP(h:Inw i nx bk Y S W L)(hi:i < 40)(hw:w < 3)(hd1:e.dot.dev=(w:Int)+1)(hd2:e.dot.n=nx w+1)(hk:e.kind=1\/e.kind=2)(hb:e.kills=[])(hg:yE e=true)(oe:OkE e){nv:Int}(hnv:nv=nx w+1) :
  ∃ (x:EV) (t':Bkt),yh e (bk w).1 (bk w).2.2.2.1 (bk w).2.2.2.2 (bk w).2.1 (bk w).2.2.1=pure (x,0) /\
   zl x (bk w).1 (bk w).2.2.2.1 (bk w).2.2.2.2 (bk w).2.1 (bk w).2.2.1=pure (0,t'.1,t'.2.2.2.1,t'.2.2.2.2,t'.2.1,t'.2.2.1) /\
   ∃ Y2 S2 W2 L2,Inw (i+1) (upd nx w nv) (upd bk w t') Y2 S2 W2 L2:=by
 have hl:=h.len;have hF:=h.st_.facts;have hB:=h.st_.bk w hw;have hnew:∀ (j:Nat) (f:yi),Y[j]?=some f->f.e.dot≠e.dot:=fun j f hj he=>by
  have:=(h.nx_ w hw).2.2 j f hj (by rw[he,hd1]);rw[he,hd2] at this;omega
 obtain⟨xc,hR⟩:=h.rk w hw;have ho:=(h.rk w hw).okb;obtain⟨m1,m2⟩:=w6a hF hB hk hb hg (by omega) hnew;have gf:=w5a hF hB ho hk hg (by omega) hnew;have okx:OkE (full (YV (L w) (S w) e)):=by have:=G.make_ok hR oe;rw[m2] at this;exact this
 have hmk:=(hR.make (by omega) oe).1;rw[m2] at hmk;obtain⟨c',xc',a,p,b,q,p1,_,R2⟩:=hR.put (by omega) okx gf m1;have hS:=h.st_.make hw ho hk hb (G.Wm hg) hnew;have hB2:=hS.bk w hw;rw[zF,zF,zF] at hB2;have hrn:=renorm (t:=(c',b,q,a,p)) hB2 ⟨xc',R2⟩ (by simp;omega);refine⟨_,(c',b,q,a,p),hmk,p1,_,_,upd W w (C.zb (W w++C.yD (yB [full (YV (L w) (S w) e)]))),_,hS.wc yYa,by simp;omega,fun k hk3=>?_,fun k hk3=>?_,fun k hk3=>?_⟩
 ·obtain⟨n1,n2,n3⟩:=h.nx_ k hk3
  by_cases e1:k=w
  ·subst e1;rw[zF,hnv];refine⟨by omega,by omega,fun j f hf hd=>?_⟩;rcases zO.1 hf with hf | ⟨rfl,rfl⟩
   ·have:=n3 j f hf hd;omega
   ·show e.dot.n<=_;omega
  ·rw[yA _ _ e1];refine⟨by omega,by omega,fun j f hf hd=>?_⟩;rcases zO.1 hf with hf | ⟨rfl,rfl⟩
   ·exact n3 j f hf hd
   ·have hd':e.dot.dev=(k:Int)+1:=hd;rw[hd1] at hd';omega
 ·by_cases e1:k=w
  ·subst e1;rw[zF,zF,zF];exact hrn
  ·rw[yA _ _ e1,yA _ _ e1,yA _ _ e1];exact h.rk k hk3
 ·by_cases e1:k=w
  ·subst e1;rw[zF,zF];exact fl_make hF hB (h.fl k hk3) hnew fun _=>rfl
  ·rw[yA _ _ e1,yA _ _ e1];exact fl_snoc (h.st_.bk k hk3) (h.fl k hk3) _ hnew
theorem xa(h:Inw i nx bk Y S W L)(hi:i<=40)(hw:w < 3)(hv:v < 3):∃ (c:List PT) (d:DL) (t':Bkt),
  zI (bk v).1 (bk v).2.2.2.1 (bk v).2.2.2.2 (bk v).2.1 (bk v).2.2.1=pure c /\
  zQ c (bk w).1 (bk w).2.2.2.1 (bk w).2.2.2.2 (bk w).2.1 (bk w).2.2.1=pure d /\
  zL d (bk v).1 (bk v).2.2.2.1 (bk v).2.2.2.2 (bk v).2.1 (bk v).2.2.1=pure (0,t'.1,t'.2.2.2.1,t'.2.2.2.2,t'.2.1,t'.2.2.1) /\
  ∃ W2 L2,Inw i nx (upd bk v t') Y (upd S v fun j=>S v j||S w j) W2 L2:=by
 have hl:=h.len;have hF:=h.st_.facts;obtain⟨xv,hRv⟩:=h.rk v hv;obtain⟨xw,hRw⟩:=h.rk w hw;have ho:=(h.rk w hw).okb;have b1:=hRv.wl;have b2:=hRv.wt;have b3:=hRw.wl;have b4:=hRw.wt;have n1:=C.vu (W v);have n2:=C.vv (W v);have n3:=C.vu (W w);have n4:=C.vv (W w);have hok:C.Ok (C.zb (W v)):=G.ZT (by omega) (by omega);have e1:=hRv.Ctx (by omega);have e2:=hRw.Since (by omega) hok;have od:=hRw.okSince (by omega) (y:=C.zb (W v)) ⟨by omega,by omega⟩;obtain⟨a1,a2⟩:=xIa (Lv:=L v) (Wv:=W v) hF (h.st_.bk w hw) ho (by omega);obtain⟨t1,t2⟩:=yVa hF (h.st_.bk v hv) (h.st_.bk w hw) ho;have hel:=jN (h.st_.bk w hw) ho;have hev:(uL (W w) (L w) (C.zb (W v))).events.length<=60:=by
  have:=List.length_filter_le (fun x=>!zt (C.zb (W v)) x) (L w);show((L w).filter fun x=>!zt (C.zb (W v)) x).length<=60;omega
 obtain⟨c',xc',a,p,b,q,p1,R2⟩:=hRv.ApplyP od (j:=400) ⟨by show(C.zb (W w)).length<=400;omega,by show C.uF (C.zb (W w))<=400;omega⟩ (by omega);rw[a1] at p1;rw[a2] at R2;have hS:=h.st_.tell hw hv ho;have hB2:=hS.bk v hv;rw[zF,zF,zF] at hB2;have hrn:=renorm (t:=(c',b,q,a,p)) hB2 ⟨xc',R2⟩ (by omega);refine⟨_,_,(c',b,q,a,p),e1,e2,p1,upd W v (C.zb (((L w).filter fun x=>!zt (C.zb (W v)) x).foldl Vc (W v,L v) |>.1 |> (·++C.zb (W w)))),_,hS.wc yYa,hl,h.nx_,fun k hk3=>?_,fun k hk3=>?_⟩
 ·by_cases e1:k=v
  ·subst e1;rw[zF,zF,zF];exact hrn
  ·rw[yA _ _ e1,yA _ _ e1,yA _ _ e1];exact h.rk k hk3
 ·by_cases e1:k=v
  ·subst e1;rw[zF,zF];refine fl_tell hF (h.st_.bk k hk3) (h.st_.bk w hw) (h.fl k hk3) (h.fl w hw) (fun x=>?_) (fun _=>rfl) t1;rw[List.mem_filter];simp only[zt,C.zx,Bool.not_eq_true']
  ·rw[yA _ _ e1,yA _ _ e1];exact h.fl k hk3
theorem Inw.up{j:Nat}(h:Inw i nx bk Y S W L)(hj:i<=j):Inw j nx bk Y S W L:={ h with len:=by have:=h.len;omega,nx_:=fun k hk=>by obtain⟨a,b,c⟩:=h.nx_ k hk;exact⟨a,by omega,c⟩ }
end
abbrev Tw_:=(Nat->Int)×(Nat->Bkt)
abbrev Tb_:=List PT×Bool×(List (DT×EV))×Bool×(List (DT×EV))×List PT×Bool×(List (DT×EV))×Bool×(List (DT×EV))×List PT×Bool×(List (DT×EV))×Bool×(List (DT×EV))
def Xj(t:Nat->Bkt):Tb_:=((t 2).1,(t 2).2.1,(t 2).2.2.1,(t 2).2.2.2.1,(t 2).2.2.2.2,(t 1).1,(t 1).2.1,(t 1).2.2.1,(t 1).2.2.2.1,(t 1).2.2.2.2,(t 0).1,(t 0).2.1,(t 0).2.2.1,(t 0).2.2.2.1,(t 0).2.2.2.2)
def InwE(i:Nat)(t:Tw_):Prop:=∃ Y S W L,Inw i t.1 t.2 Y S W L
theorem zea(l:List L20Deed)(hl:l.length<=40){i:Nat}{x:L20Deed}(hx:l[i]?=some x)(hi:i < l.length)(hin:w9a x)(t:Tw_)(h:InwE i t):∃ t':Tw_,yG l ((i:Int),t.1 0,t.1 1,t.1 2,Xj t.2)=pure (.next (((i+1:Nat):Int),t'.1 0,t'.1 1,t'.1 2,Xj t'.2))/\InwE (i+1) t':=by
 obtain⟨nx,bk⟩:=t;obtain⟨Y,S,W,L,h⟩:=h;have hi40:i < 40:=by omega
 have hwho:=(rem3 (n:=x.who) ⟨hin.who.1,by have:=hin.who.2;omega⟩).1;have hwhom:=(rem3 (n:=x.whom) ⟨hin.whom.1,by have:=hin.whom.2;omega⟩).1;have hdl:decide ((i:Int) < (l.length:Int))=true:=by simpa using hi
 suffices main:∃ z,yG l ((i:Int),nx 0,nx 1,nx 2,Xj bk)=pure z/\∃ t':Tw_,z=.next (((i+1:Nat):Int),t'.1 0,t'.1 1,t'.1 2,Xj t'.2)/\InwE (i+1) t' by
  obtain⟨z,h1,t',rfl,h2⟩:=main;exact⟨t',h1,h2⟩
 unfold yG Xj;dsimp only;rw[hdl,cond_true,zK hx,zA,zA,zA];refine bindE (Q:=fun z=>∃ t':Tw_,z=(t'.1 0,t'.1 1,t'.1 2,Xj t'.2)/\InwE (i+1) t') ?_ ?_
 ·by_cases kt:2 < x.kind
  ·rw[decide_eq_true kt,cond_true];rcases hwhom with hv | hv | hv <;> rcases hwho with hw | hw | hw
   ·rw[hv,hw];simp only[Int.reduceEq,decide_true,decide_false,cond_true,cond_false,zE];obtain⟨c,d,t',e1,e2,e3,W2,L2,hI⟩:=xa (h.up (Nat.le_succ i)) (by omega) (w:=0) (v:=0) (by omega) (by omega);rw[e1,zB,zA,e2,zB,zA,e3,zB,zA];exact⟨_,rfl,(nx,upd bk 0 t'),rfl,Y,_,W2,L2,hI⟩
   ·rw[hv,hw];simp only[Int.reduceEq,decide_true,decide_false,cond_true,cond_false,zE];obtain⟨c,d,t',e1,e2,e3,W2,L2,hI⟩:=xa (h.up (Nat.le_succ i)) (by omega) (w:=1) (v:=0) (by omega) (by omega);rw[e1,zB,zA,e2,zB,zA,e3,zB,zA];exact⟨_,rfl,(nx,upd bk 0 t'),rfl,Y,_,W2,L2,hI⟩
   ·rw[hv,hw];simp only[Int.reduceEq,decide_true,decide_false,cond_true,cond_false,zE];obtain⟨c,d,t',e1,e2,e3,W2,L2,hI⟩:=xa (h.up (Nat.le_succ i)) (by omega) (w:=2) (v:=0) (by omega) (by omega);rw[e1,zB,zA,e2,zB,zA,e3,zB,zA];exact⟨_,rfl,(nx,upd bk 0 t'),rfl,Y,_,W2,L2,hI⟩
   ·rw[hv,hw];simp only[Int.reduceEq,decide_true,decide_false,cond_true,cond_false,zE];obtain⟨c,d,t',e1,e2,e3,W2,L2,hI⟩:=xa (h.up (Nat.le_succ i)) (by omega) (w:=0) (v:=1) (by omega) (by omega);rw[e1,zB,zA,e2,zB,zA,e3,zB,zA];exact⟨_,rfl,(nx,upd bk 1 t'),rfl,Y,_,W2,L2,hI⟩
   ·rw[hv,hw];simp only[Int.reduceEq,decide_true,decide_false,cond_true,cond_false,zE];obtain⟨c,d,t',e1,e2,e3,W2,L2,hI⟩:=xa (h.up (Nat.le_succ i)) (by omega) (w:=1) (v:=1) (by omega) (by omega);rw[e1,zB,zA,e2,zB,zA,e3,zB,zA];exact⟨_,rfl,(nx,upd bk 1 t'),rfl,Y,_,W2,L2,hI⟩
   ·rw[hv,hw];simp only[Int.reduceEq,decide_true,decide_false,cond_true,cond_false,zE];obtain⟨c,d,t',e1,e2,e3,W2,L2,hI⟩:=xa (h.up (Nat.le_succ i)) (by omega) (w:=2) (v:=1) (by omega) (by omega);rw[e1,zB,zA,e2,zB,zA,e3,zB,zA];exact⟨_,rfl,(nx,upd bk 1 t'),rfl,Y,_,W2,L2,hI⟩
   ·rw[hv,hw];simp only[Int.reduceEq,decide_true,decide_false,cond_true,cond_false,zE];obtain⟨c,d,t',e1,e2,e3,W2,L2,hI⟩:=xa (h.up (Nat.le_succ i)) (by omega) (w:=0) (v:=2) (by omega) (by omega);rw[e1,zB,zA,e2,zB,zA,e3,zB,zA];exact⟨_,rfl,(nx,upd bk 2 t'),rfl,Y,_,W2,L2,hI⟩
   ·rw[hv,hw];simp only[Int.reduceEq,decide_true,decide_false,cond_true,cond_false,zE];obtain⟨c,d,t',e1,e2,e3,W2,L2,hI⟩:=xa (h.up (Nat.le_succ i)) (by omega) (w:=1) (v:=2) (by omega) (by omega);rw[e1,zB,zA,e2,zB,zA,e3,zB,zA];exact⟨_,rfl,(nx,upd bk 2 t'),rfl,Y,_,W2,L2,hI⟩
   ·rw[hv,hw];simp only[Int.reduceEq,decide_true,decide_false,cond_true,cond_false,zE];obtain⟨c,d,t',e1,e2,e3,W2,L2,hI⟩:=xa (h.up (Nat.le_succ i)) (by omega) (w:=2) (v:=2) (by omega) (by omega);rw[e1,zB,zA,e2,zB,zA,e3,zB,zA];exact⟨_,rfl,(nx,upd bk 2 t'),rfl,Y,_,W2,L2,hI⟩
  ·rw[decide_eq_false kt,cond_false];obtain⟨kd,fl,hkf,hkf2⟩:=deed_kf x hin;rcases hwho with hw | hw | hw
   ·rw[hw];simp only[Int.reduceEq,decide_true,decide_false,cond_true,cond_false,zE];rw[zA,zA,zA,hkf,zA];dsimp only;obtain⟨n1,n2,_⟩:=h.nx_ 0 (by omega);dsimp only at n1 n2;obtain⟨g1,g2,g3,g4⟩:=jP (dev:=1) (n:=nx 0) (kd:=kd) (cid:=x.cid) (fl:=fl) (by omega) ⟨n1,by omega⟩ hin.cid hkf2;obtain⟨q,t',e1,e2,hI⟩:=VP h hi40 (w:=0) (e:=jO 1 (nx 0) kd x.cid fl) (by omega) g1 g2 (by show kd=1\/kd=2;omega) rfl g3 g4 (nv:=IntKind.u64.wrap (nx 0+1)) (Qr (by omega) (by omega));unfold jO at e1;dsimp only at e1 e2;rw[e1,zB,zA];dsimp only;rw[e2,zB,zA];exact⟨_,rfl,(upd nx 0 _,upd bk 0 t'),rfl,hI⟩
   ·rw[hw];simp only[Int.reduceEq,decide_true,decide_false,cond_true,cond_false,zE];rw[zA,zA,zA,hkf,zA];dsimp only;obtain⟨n1,n2,_⟩:=h.nx_ 1 (by omega);dsimp only at n1 n2;obtain⟨g1,g2,g3,g4⟩:=jP (dev:=2) (n:=nx 1) (kd:=kd) (cid:=x.cid) (fl:=fl) (by omega) ⟨n1,by omega⟩ hin.cid hkf2;obtain⟨q,t',e1,e2,hI⟩:=VP h hi40 (w:=1) (e:=jO 2 (nx 1) kd x.cid fl) (by omega) g1 g2 (by show kd=1\/kd=2;omega) rfl g3 g4 (nv:=IntKind.u64.wrap (nx 1+1)) (Qr (by omega) (by omega));unfold jO at e1;dsimp only at e1 e2;rw[e1,zB,zA];dsimp only;rw[e2,zB,zA];exact⟨_,rfl,(upd nx 1 _,upd bk 1 t'),rfl,hI⟩
   ·rw[hw];simp only[Int.reduceEq,decide_true,decide_false,cond_true,cond_false,zE];rw[zA,zA,zA,hkf,zA];dsimp only;obtain⟨n1,n2,_⟩:=h.nx_ 2 (by omega);dsimp only at n1 n2;obtain⟨g1,g2,g3,g4⟩:=jP (dev:=3) (n:=nx 2) (kd:=kd) (cid:=x.cid) (fl:=fl) (by omega) ⟨n1,by omega⟩ hin.cid hkf2;obtain⟨q,t',e1,e2,hI⟩:=VP h hi40 (w:=2) (e:=jO 3 (nx 2) kd x.cid fl) (by omega) g1 g2 (by show kd=1\/kd=2;omega) rfl g3 g4 (nv:=IntKind.u64.wrap (nx 2+1)) (Qr (by omega) (by omega));unfold jO at e1;dsimp only at e1 e2;rw[e1,zB,zA];dsimp only;rw[e2,zB,zA];exact⟨_,rfl,(upd nx 2 _,upd bk 2 t'),rfl,hI⟩
 ·rintro z ⟨t',rfl,hI⟩;unfold Xj;dsimp only;rw[yL (show i < 9223372036854775807 by omega)];exact⟨_,rfl,t',rfl,hI⟩
structure Rnd(i:Nat)(f:Nat)(S0:Nat->Nat->Bool)(nx:Nat->Int)(bk:Nat->Bkt)(Y:List yi)(S:Nat->Nat->Bool)(W:Nat->List PT)(L:Nat->List EV):Prop where
 inw:Inw 40 nx bk Y S W L
 up:∀ k,k < 3->∀ j,S k j=true->S0 0 j=true\/S0 1 j=true\/S0 2 j=true
 lo:∀ k,k < 3->∀ j,S0 k j=true->S k j=true
 did:∀ q,q < i->∀ j,S0 ((q+f) % 3) j=true->S ((q / 3+f) % 3) j=true
theorem Rnd.tell{i f:Nat}{S0:Nat->Nat->Bool}{nx:Nat->Int}{bk:Nat->Bkt}{Y:List yi}{S:Nat->Nat->Bool}{W:Nat->List PT}{L:Nat->List EV}(h:Rnd i f S0 nx bk Y S W L){w v:Nat}(hw:w < 3)(hv:v < 3)(ew:(i+f) % 3=w)(ev:(i / 3+f) % 3=v) :
  ∃ (c:List PT) (d:DL) (t':Bkt),zI (bk v).1 (bk v).2.2.2.1 (bk v).2.2.2.2 (bk v).2.1 (bk v).2.2.1=pure c /\
  zQ c (bk w).1 (bk w).2.2.2.1 (bk w).2.2.2.2 (bk w).2.1 (bk w).2.2.1=pure d /\
  zL d (bk v).1 (bk v).2.2.2.1 (bk v).2.2.2.2 (bk v).2.1 (bk v).2.2.1=pure (0,t'.1,t'.2.2.2.1,t'.2.2.2.2,t'.2.1,t'.2.2.1) /\
  ∃ S2 W2 L2,Rnd (i+1) f S0 nx (upd bk v t') Y S2 W2 L2:=by
 obtain⟨c,d,t',e1,e2,e3,W2,L2,hI⟩:=xa h.inw (Nat.le_refl _) hw hv;have mono:∀ k j,S k j=true->upd S v (fun j=>S v j||S w j) k j=true:=fun k j hs=>by
  by_cases e:k=v
  ·subst e;rw[zF,hs];rfl
  ·rw[yA _ _ e];exact hs
 refine⟨c,d,t',e1,e2,e3,_,W2,L2,hI,fun k hk j hs=>?_,fun k hk j hs=>mono k j (h.lo k hk j hs),fun q hq j hs=>?_⟩
 ·by_cases e:k=v
  ·subst e;rw[zF,Bool.or_eq_true] at hs;exact hs.elim (h.up k hk j) (h.up w hw j)
  ·rw[yA _ _ e] at hs;exact h.up k hk j hs
 ·by_cases hqi:q=i
  ·subst hqi;rw[ew] at hs;rw[ev,zF,h.lo w hw j hs,Bool.or_true]
  ·exact mono _ _ (h.did q (by omega) j hs)
theorem Rnd.all{f:Nat}{S0:Nat->Nat->Bool}{nx:Nat->Int}{bk:Nat->Bkt}{Y:List yi}{S:Nat->Nat->Bool}{W:Nat->List PT}{L:Nat->List EV}(h:Rnd 9 f S0 nx bk Y S W L):∀ k,k < 3->∀ j,S k j=S 0 j:=by
 have key:∀ k,k < 3->∀ j,S k j=true↔(S0 0 j=true\/S0 1 j=true\/S0 2 j=true):=fun k hk j=>by
  refine⟨h.up k hk j,fun hs=>?_⟩;have tell:∀ w,w < 3->S0 w j=true->S k j=true:=fun w hw hs=>by
   have hq:=h.did (3*((k+3 - f % 3) % 3)+(w+3 - f % 3) % 3) (by omega) j;rw[show(3*((k+3 - f % 3) % 3)+(w+3 - f % 3) % 3+f) % 3=w by omega,show((3*((k+3 - f % 3) % 3)+(w+3 - f % 3) % 3) / 3+f) % 3=k by omega] at hq;exact hq hs
  rcases hs with hs | hs | hs
  ·exact tell 0 (by omega) hs
  ·exact tell 1 (by omega) hs
  ·exact tell 2 (by omega) hs
 intro k hk j;rw[Bool.eq_iff_iff,key k hk,key 0 (by omega)]
theorem xJa{f:Int}(hf:0<=f/\f<=255){S0:Nat->Nat->Bool}{i:Nat}(hi:i < 9){nx:Nat->Int}{Y:List yi}(bk:Nat->Bkt)(h:∃ S W L,Rnd i f.toNat S0 nx bk Y S W L):∃ bk',yH f ((i:Int),Xj bk)=pure (.next (((i+1:Nat):Int),Xj bk'))/\∃ S W L,Rnd (i+1) f.toNat S0 nx bk' Y S W L:=by
 obtain⟨S,W,L,h⟩:=h;have hdl:decide ((i:Int) < 9)=true:=decide_eq_true (by omega);have e1:Int.tmod (IntKind.i64.wrap ((i:Int)+IntKind.i64.wrap f)) 3=(((i+f.toNat) % 3:Nat):Int):=by
  rw[Wc (n:=f) (by omega) (by omega),Wc (by omega) (by omega),Int.tmod_eq_emod_of_nonneg (by omega)];omega
 have e2:Int.tmod (IntKind.i64.wrap (IntKind.i64.wrap (Int.tdiv (i:Int) 3)+IntKind.i64.wrap f)) 3=(((i / 3+f.toNat) % 3:Nat):Int):=by
  rw[Int.tdiv_eq_ediv_of_nonneg (by omega),Wc (n:=f) (by omega) (by omega),Wc (n:=(i:Int) / 3) (by omega) (by omega),Wc (by omega) (by omega),Int.tmod_eq_emod_of_nonneg (by omega)];omega
 suffices main:∃ z,yH f ((i:Int),Xj bk)=pure z/\∃ bk',z=.next (((i+1:Nat):Int),Xj bk')/\∃ S W L,Rnd (i+1) f.toNat S0 nx bk' Y S W L by
  obtain⟨z,h1,t',rfl,h2⟩:=main;exact⟨t',h1,h2⟩
 unfold yH Xj;dsimp only;rw[hdl,cond_true,e1,e2];refine bindE (Q:=fun z=>∃ bk',z=.brk (Xj bk')/\∃ S W L,Rnd (i+1) f.toNat S0 nx bk' Y S W L) ?_ ?_
 ·have hv3:(i / 3+f.toNat) % 3=0\/(i / 3+f.toNat) % 3=1\/(i / 3+f.toNat) % 3=2:=by omega
  have hw3:(i+f.toNat) % 3=0\/(i+f.toNat) % 3=1\/(i+f.toNat) % 3=2:=by omega
  rcases hv3 with hv | hv | hv <;> rcases hw3 with hw | hw | hw
  ·rw[hv,hw];simp only[Int.cast_ofNat_Int,Int.reduceEq,decide_true,decide_false,cond_true,cond_false,zE];obtain⟨c,d,t',q1,q2,q3,S2,W2,L2,hI⟩:=h.tell (w:=0) (v:=0) (by omega) (by omega) hw hv;rw[q1,zB,zA,q2,zB,zA,q3,zB,zA];simp only[decide_true,Bool.not_true,cond_false];exact⟨_,rfl,upd bk 0 t',rfl,S2,W2,L2,hI⟩
  ·rw[hv,hw];simp only[Int.cast_ofNat_Int,Int.reduceEq,decide_true,decide_false,cond_true,cond_false,zE];obtain⟨c,d,t',q1,q2,q3,S2,W2,L2,hI⟩:=h.tell (w:=1) (v:=0) (by omega) (by omega) hw hv;rw[q1,zB,zA,q2,zB,zA,q3,zB,zA];simp only[decide_true,Bool.not_true,cond_false];exact⟨_,rfl,upd bk 0 t',rfl,S2,W2,L2,hI⟩
  ·rw[hv,hw];simp only[Int.cast_ofNat_Int,Int.reduceEq,decide_true,decide_false,cond_true,cond_false,zE];obtain⟨c,d,t',q1,q2,q3,S2,W2,L2,hI⟩:=h.tell (w:=2) (v:=0) (by omega) (by omega) hw hv;rw[q1,zB,zA,q2,zB,zA,q3,zB,zA];simp only[decide_true,Bool.not_true,cond_false];exact⟨_,rfl,upd bk 0 t',rfl,S2,W2,L2,hI⟩
  ·rw[hv,hw];simp only[Int.cast_ofNat_Int,Int.reduceEq,decide_true,decide_false,cond_true,cond_false,zE];obtain⟨c,d,t',q1,q2,q3,S2,W2,L2,hI⟩:=h.tell (w:=0) (v:=1) (by omega) (by omega) hw hv;rw[q1,zB,zA,q2,zB,zA,q3,zB,zA];simp only[decide_true,Bool.not_true,cond_false];exact⟨_,rfl,upd bk 1 t',rfl,S2,W2,L2,hI⟩
  ·rw[hv,hw];simp only[Int.cast_ofNat_Int,Int.reduceEq,decide_true,decide_false,cond_true,cond_false,zE];obtain⟨c,d,t',q1,q2,q3,S2,W2,L2,hI⟩:=h.tell (w:=1) (v:=1) (by omega) (by omega) hw hv;rw[q1,zB,zA,q2,zB,zA,q3,zB,zA];simp only[decide_true,Bool.not_true,cond_false];exact⟨_,rfl,upd bk 1 t',rfl,S2,W2,L2,hI⟩
  ·rw[hv,hw];simp only[Int.cast_ofNat_Int,Int.reduceEq,decide_true,decide_false,cond_true,cond_false,zE];obtain⟨c,d,t',q1,q2,q3,S2,W2,L2,hI⟩:=h.tell (w:=2) (v:=1) (by omega) (by omega) hw hv;rw[q1,zB,zA,q2,zB,zA,q3,zB,zA];simp only[decide_true,Bool.not_true,cond_false];exact⟨_,rfl,upd bk 1 t',rfl,S2,W2,L2,hI⟩
  ·rw[hv,hw];simp only[Int.cast_ofNat_Int,Int.reduceEq,decide_true,decide_false,cond_true,cond_false,zE];obtain⟨c,d,t',q1,q2,q3,S2,W2,L2,hI⟩:=h.tell (w:=0) (v:=2) (by omega) (by omega) hw hv;rw[q1,zB,zA,q2,zB,zA,q3,zB,zA];simp only[decide_true,Bool.not_true,cond_false];exact⟨_,rfl,upd bk 2 t',rfl,S2,W2,L2,hI⟩
  ·rw[hv,hw];simp only[Int.cast_ofNat_Int,Int.reduceEq,decide_true,decide_false,cond_true,cond_false,zE];obtain⟨c,d,t',q1,q2,q3,S2,W2,L2,hI⟩:=h.tell (w:=1) (v:=2) (by omega) (by omega) hw hv;rw[q1,zB,zA,q2,zB,zA,q3,zB,zA];simp only[decide_true,Bool.not_true,cond_false];exact⟨_,rfl,upd bk 2 t',rfl,S2,W2,L2,hI⟩
  ·rw[hv,hw];simp only[Int.cast_ofNat_Int,Int.reduceEq,decide_true,decide_false,cond_true,cond_false,zE];obtain⟨c,d,t',q1,q2,q3,S2,W2,L2,hI⟩:=h.tell (w:=2) (v:=2) (by omega) (by omega) hw hv;rw[q1,zB,zA,q2,zB,zA,q3,zB,zA];simp only[decide_true,Bool.not_true,cond_false];exact⟨_,rfl,upd bk 2 t',rfl,S2,W2,L2,hI⟩
 ·rintro z ⟨t',rfl,hI⟩;rw[uh];unfold Xj;dsimp only;rw[yL (show i < 9223372036854775807 by omega)];exact⟨_,rfl,t',rfl,hI⟩
theorem JE{f:Int}(hf:0<=f/\f<=255){nx:Nat->Int}{Y:List yi}{S:Nat->Nat->Bool}{W:Nat->List PT}{L:Nat->List EV}(bk:Nat->Bkt)(h:Inw 40 nx bk Y S W L):∃ bk',loop (yH f) (0,Xj bk)=pure (.brk (Xj bk'))/\∃ S W L,Inw 40 nx bk' Y S W L/\∀ k,k < 3->∀ j,S k j=S 0 j:=by
 obtain⟨r,e,bk',hr,hq⟩:=G.loopE (body:=yH f) (List.range 9) (fun i (t:Nat->Bkt)=>((i:Int),Xj t)) (fun i t=>∃ S' W L,Rnd i f.toNat S nx t Y S' W L) (fun r=>∃ bk',r=.brk (Xj bk')/\∃ S W L,Inw 40 nx bk' Y S W L/\∀ k,k < 3->∀ j,S k j=S 0 j)
  (fun i x t hx hi hI=>xJa hf (by simpa using hi) t hI)
  (fun t hI=>by
   rw[List.length_range] at hI ⊢;obtain⟨S',W,L,hI⟩:=hI;exact⟨_,rfl,t,rfl,S',W,L,hI.inw,hI.all⟩) bk ⟨S,W,L,h,fun k hk j hs=>by
   have hk:k=0\/k=1\/k=2:=by omega
   rcases hk with rfl | rfl | rfl
   ·exact .inl hs
   ·exact .inr (.inl hs)
   ·exact .inr (.inr hs),fun k hk j hs=>hs,fun q hq=>by omega⟩
 subst hr;exact⟨bk',e,hq⟩
theorem rounds{f:Int}(hf:0<=f/\f<=255){nx:Nat->Int}{Y:List yi}{S:Nat->Nat->Bool}{W:Nat->List PT}{L:Nat->List EV}(bk:Nat->Bkt)(h:Inw 40 nx bk Y S W L):∃ bk',loop (yr f) (0,Xj bk)=pure (.brk (Xj bk'))/\∃ S W L,Inw 40 nx bk' Y S W L/\∀ k,k < 3->∀ j,S k j=S 0 j:=by
 obtain⟨b1,e1,S1,W1,L1,h1,_⟩:=JE hf bk h;obtain⟨b2,e2,S2,W2,L2,h2,h3⟩:=JE hf b1 h1;have st:∀ (i:Nat) (b b':Nat->Bkt),i < 2->loop (yH f) (0,Xj b)=pure (.brk (Xj b'))->yr f ((i:Int),Xj b)=pure (.next (((i+1:Nat):Int),Xj b')):=fun i b b' hi he=>by
  unfold yr Xj;dsimp only;unfold Xj at he;rw[decide_eq_true (show(i:Int) < 2 by omega),cond_true,he,zA,uh];dsimp only;rw[yL (show i < 9223372036854775807 by omega)]
 have s1:=st 0 bk b1 (by omega) e1;have s2:=st 1 b1 b2 (by omega) e2;refine⟨b2,?_,S2,W2,L2,h2,h3⟩;rw[show(0:Int)=((0:Nat):Int) from rfl,yI s1,yI s2];exact yJ rfl
theorem Rep.Same1{n:Nat}{W c xc:List PT}{a b:Bool}{p q:List (DT×EV)}{L:List EV}(hR:Rep n W c xc a p b q L)(hn:n<=100000000):Yi c a p b q=pure true:=by
 have h:=hR.Same hn hR hn;rw[decide_eq_true rfl,decide_eq_true rfl] at h;exact h
theorem inw_nil : InwE 0 ((fun _=>0),fun _=>([],true,[],true,[])):=⟨[],fun _ _=>false,fun _=>[],fun _=>[],St.nil,Nat.le_refl _,fun k _=>⟨(by show(0:Int)<=0;decide),(by show(0:Int)<=((0:Nat):Int);decide),fun j f h=>by simp at h⟩,fun k _=>⟨[],Rep.new.mono (by decide)⟩,fun k _=>⟨fun j f h=>by simp at h,fun e he=>by cases he⟩⟩
theorem deltaSettles_eq(l:List L20Deed)(f:Int)(hin:∀ x∈l,w9a x)(hf:0<=f/\f<=255):wH l f=pure true:=by
 unfold wH
 by_cases h40:40 < l.length
 ·rw[decide_eq_true (show(40:Int) < (l.length:Int) by omega),cond_true,G.w3a,zB,zA]
 ·rw[decide_eq_false (show ¬ (40:Int) < (l.length:Int) by omega),cond_false];obtain⟨r,e,t,hr,ht⟩:=G.loopE (body:=yG l) l (fun i (t:Tw_)=>((i:Int),t.1 0,t.1 1,t.1 2,Xj t.2)) InwE (fun r=>∃ t:Tw_,r=Xj t.2/\InwE l.length t) (fun i x t hx hi h=>zea l (by omega) hx hi (hin x (List.mem_of_getElem? hx)) t h) (fun t h=>⟨Xj t.2,by unfold yG Xj;simp,t,rfl,h⟩) _ inw_nil;subst hr;obtain⟨Y,S,W,L,hI⟩:=ht;unfold wh;simp only[zB,zA];have e':loop (yG l) (0,0,0,0,([]:List PT),true,([]:List (DT×EV)),true,([]:List (DT×EV)),([]:List PT),true,([]:List (DT×EV)),true,([]:List (DT×EV)),([]:List PT),true,([]:List (DT×EV)),true,([]:List (DT×EV)))=pure (Xj t.2):=e;rw[e',zA];obtain⟨bk,e2,S,W,L,h,hall⟩:=rounds hf t.2 (hI.up (by omega));show(M.bind (M.loop (yr f) (0,Xj t.2)) _:M Bool)=_;rw[e2,zA,uh];unfold Xj;dsimp only;obtain⟨x0,R0⟩:=h.rk 0 (by omega);obtain⟨x1,R1⟩:=h.rk 1 (by omega);obtain⟨x2,R2⟩:=h.rk 2 (by omega);have o0:=(h.rk 0 (by omega)).okb;have o1:=(h.rk 1 (by omega)).okb;have o2:=(h.rk 2 (by omega)).okb;have hF:=h.st_.facts;obtain⟨w1,l1⟩:=w7a hF (h.st_.bk 1 (by omega)) (h.st_.bk 0 (by omega)) (h.fl 1 (by omega)) (h.fl 0 (by omega)) o1 o0 (hall 1 (by omega));obtain⟨w2,l2⟩:=w7a hF (h.st_.bk 2 (by omega)) (h.st_.bk 0 (by omega)) (h.fl 2 (by omega)) (h.fl 0 (by omega)) o2 o0 (hall 2 (by omega));have s1:=R1.Same (by omega) R0 (by omega);have s2:=R2.Same (by omega) R0 (by omega);rw[decide_eq_true w1,decide_eq_true l1] at s1;rw[decide_eq_true w2,decide_eq_true l2] at s2;have b1:=R0.wl;have b2:=R0.wt;have hok:C.Ok (C.zb (W 0)):=G.ZT (by omega) (by omega);obtain⟨k,a,p,b,q,p1,_,R3,_⟩:=R0.prune (by omega) hok;have hone:=w8a (h.st_.bk 0 (by omega)) (y:=C.zb (W 0)) fun k n=>C.zx _ _ _
  have ht:wn (xV (C.zb (W 0)) (L 0))=[]:=List.filter_eq_nil_iff.2 fun x hx=>by rw[hone x hx];simp
  have hlv:yx (xV (C.zb (W 0)) (L 0))=xV (C.zb (W 0)) (L 0):=List.filter_eq_self.2 fun x hx=>by rw[hone x hx];rfl
  have q1:=R3.Tombs (by omega);have q2:=R3.All (by omega);have q3:=R3.Live (by omega);rw[ht] at q1;rw[hlv] at q3;have hll:=R3.ll;have q4:=E.rAll_eq (xV (C.zb (W 0)) (L 0)) (xV (C.zb (W 0)) (L 0)) (by omega) (fun e he=>by have:=R3.kl e he;omega);rw[R0.Ctx (by omega),zB,zA,Rep.Same1 R0 (by omega),zB,zA];simp only[Bool.not_true,cond_false];rw[s1,zB,zA];simp only[Bool.and_self,Bool.not_true,cond_false];rw[s2,zB,zA];simp only[Bool.and_self,Bool.not_true,cond_false];rw[zA,uh,p1,zB,zA];dsimp only;rw[q1,zB,zA];simp only[List.length_nil,decide_true,cond_true,Int.cast_ofNat_Int];rw[q2,zB,zA,q3,zB,zA,q4,zB,zA,decide_eq_true rfl,cond_true,G.w3a,zB,zA,zA]
end Go.Ep.M.T
namespace Go.Ep
open Go.RowKit Go.ChangeShapes Go.WideShapes
abbrev All : Nat->Prop:=fun _=>True
mutual
def qi{H:Type}:DataW H->Nat
 | .lit (.string bytes)=>bytes.length+1
 | .lit _=>1
 | .nil=>1
 | .ptr d=>qi d+1
 | .slice elems spare=>vd elems+vd spare+1
 | .agg parts=>vd parts+1
 | .iface _ d=>qi d+1
 | .map entries=>jQ entries+1
 | .held _=>1
def vd{H:Type}:List (DataW H)->Nat
 | []=>0
 | d::r=>qi d+vd r
def jQ{H:Type}:List (Lit×DataW H)->Nat
 | []=>0
 | x::r=>vAa x+jQ r
def vAa{H:Type}:Lit×DataW H->Nat
 | (.string bytes,d)=>bytes.length+qi d+1
 | (_,d)=>qi d+1
end
theorem yZa{H:Type}(d:DataW H):1<=qi d:=by
 cases d with
 | lit l=>cases l <;> simp[qi]
 | nil=>simp[qi]
 | ptr d=>simp[qi]
 | slice elems spare=>simp[qi]
 | agg parts=>simp[qi]
 | iface t d=>simp[qi]
 | map entries=>simp[qi]
 | held h=>simp[qi]
theorem zfa{H:Type}(l r:List (DataW H)):vd (l++r)=vd l+vd r:=by
 induction l with
 | nil=>simp[vd]
 | cons x l ih=>simp only[List.cons_append,vd,ih];omega
def szL{α:Type}(sz:α->Nat):List α->Nat
 | []=>0
 | a::r=>sz a+szL sz r
theorem szL_app{α:Type}(sz:α->Nat)(l r:List α):szL sz (l++r)=szL sz l+szL sz r:=by
 induction l with
 | nil=>simp[szL]
 | cons x l ih=>simp only[List.cons_append,szL,ih];omega
structure Opn(P:Program)(t:TypeId)(k:Nat){α:Type}(enc:α->List DV)(ok:α->Prop)(sz:α->Nat):Prop where
 cells:P.cellsOf t=k
 op:∀ {H:Type} {en:TypeId×Value->H} {w:World} {fuel:Nat} {cs:List Value} {x:DataW H×List MemPlace},DataW.trod en P w 0 (fun _=>true) true fuel t cs=some x ->
  ∃ a,ok a/\cs.length=k/\(enc a).length=k/\(∀ (j:Nat) (y:DV) (u:Value),(enc a)[j]?=some y->cs[j]?=some u->DRd w All y u)/\sz a<=qi x.1
section
variable{P:Program}{t:TypeId}
theorem Opn.map{k:Nat}{α β:Type}{enc:α->List DV}{enc':β->List DV}{ok:α->Prop}{ok':β->Prop}{sz:α->Nat}{sz':β->Nat}(h:Opn P t k enc ok sz)(f:α->β)(he:∀ a,ok a->enc' (f a)=enc a)(ho:∀ a,ok a->ok' (f a))(hz:∀ a,sz' (f a)<=sz a):Opn P t k enc' ok' sz':=
 ⟨h.cells,fun hx=>let ⟨a,h1,h2,h3,h4,h5⟩:=h.op hx;⟨f a,ho a h1,h2,by rw[he a h1];exact h3,by rw[he a h1];exact h4,Nat.le_trans (hz a) h5⟩⟩
theorem zga{w:World}{y:DV}{u:Value}(h:DRd w All y u):∀ (j:Nat) (y':DV) (u':Value),[y][j]?=some y'->[u][j]?=some u'->DRd w All y' u':=by
 intro j y' u' h1 h2
 cases j with
 | zero=>simp at h1 h2;subst h1;subst h2;exact h
 | succ j=>simp at h1
def okK(k:IntKind)(n:Int):Prop:=(Lit.int k n).wf=true
theorem Opn.int{k:IntKind}(hu:P.underlying t=some (.int k))(hc:P.cellsOf t=1):Opn P t 1 (eK k) (okK k) (fun _=>1):=by
 refine⟨hc,fun {H en w fuel cs x} h=>?_⟩
 cases fuel with
 | zero=>simp[DataW.trod] at h
 | succ fuel=>
  unfold DataW.trod at h;rw[hu] at h
  split at h <;> simp_all
  case h_2 n _=>
   obtain⟨⟨h1,h2⟩,_⟩:=h;subst h1;refine⟨n,h2,rfl,?_,yZa _⟩;intro j y u h1 h3;exact zga (.v _ rfl) j y u h1 h3
theorem okU8{n:Int}(h:okK .u8 n):0<=n/\n < 256:=by
 simp[okK,Lit.wf,IntKind.min,IntKind.max,IntKind.signed,IntKind.bits] at h;omega
theorem Opn.slice{e:TypeId}{k:Nat}{α:Type}{enc:α->List DV}{ok:α->Prop}{sz:α->Nat}(h:Opn P e k enc ok sz)(hu:P.underlying t=some (.slice e))(hc:P.cellsOf t=1)(hk:0 < k) :
  Opn P t 1 (eL enc) (fun l=>l.length<=9223372036854775807/\∀ a∈l,ok a) (fun l=>szL sz l+1):=by
 refine⟨hc,fun {H en w fuel cs x} hx=>?_⟩;rcases Deep.open_slice hu hx with⟨rfl,_⟩ | ⟨a,len,cap,m,n,D,Pl,rfl,_,hl,hm,hmm,hxD,hel⟩
 ·exact⟨[],⟨Nat.zero_le _,by simp⟩,rfl,rfl,zga (.nil none 0 (Nat.zero_le _) (fun _=>rfl)),yZa _⟩
 simp only[if_true] at hmm;subst hmm;rw[h.cells] at hel;have hcut:∀ n0,n0<=len->∃ l:List α,l.length=n0/\(∀ a∈l,ok a)/\szL sz l<=vd ((List.range n0).map D)/\∀ (i:Nat) (b:α),l[i]?=some b->(enc b).length=k/\∀ (j:Nat) (y:DV),(enc b)[j]?=some y->∃ u,w.cell? (a.add (i*k+j))=some u/\DRd w All y u:=by
  intro n0
  induction n0 with
  | zero=>intro _;exact⟨[],rfl,by simp,by simp[szL],by simp⟩
  | succ n0 ih=>
   intro hn;obtain⟨l,h1,h2,hz,h3⟩:=ih (by omega);obtain⟨cs',hc',ht'⟩:=hel n0 (by omega);obtain⟨b,hb1,hb2,hb3,hb4,hb5⟩:=h.op ht';obtain⟨_,_,hcell⟩:=World.cells?_some hc';refine⟨l++[b],by simp[h1],?_,by rw[szL_app,List.range_succ,List.map_append,zfa];simp only[szL,List.map_cons,List.map_nil,vd];simp only at hb5;omega,?_⟩
   ·intro a ha;rcases List.mem_append.1 ha with ha | ha
    ·exact h2 a ha
    ·simp at ha;subst ha;exact hb1
   ·intro i b' hi;rw[List.getElem?_append] at hi
    split at hi
    ·exact h3 i b' hi
    ·rename_i hge
     have hi0:i=n0:=by
      have:i - l.length < 1:=by simpa using (List.getElem?_eq_some_iff.1 hi).1
      omega
     subst hi0;simp[h1] at hi;subst hi;refine⟨hb3,fun j y hy=>?_⟩;have hj:j < k:=by rw[<- hb3];exact(List.getElem?_eq_some_iff.1 hy).1
     have hcj:=hcell j hj;rw[Deep.add_add] at hcj;have hu':cs'[j]?=some (cs'[j]'(by omega)):=List.getElem?_eq_getElem (by omega);exact⟨_,by rw[hcj,hu'],hb4 j y _ hy hu'⟩
 obtain⟨l,h1,h2,hz,h3⟩:=hcut len (Nat.le_refl _);refine⟨l,⟨by unfold maxLen at hm;omega,h2⟩,rfl,rfl,zga ?_,?_⟩
 rotate_left
 ·rw[hxD];simp only[qi];omega
 by_cases h0:len=0
 ·have:l=[]:=List.eq_nil_of_length_eq_zero (by omega);subst this;subst h0;exact .nil _ _ hm (fun e=>by cases e)
 ·-- the first cell tells that the address is a plain one
  have hl0:0 < l.length:=by omega
  obtain⟨hk0,hc0⟩:=h3 0 _ (List.getElem?_eq_getElem hl0);obtain⟨u0,hu0,_⟩:=hc0 0 _ (List.getElem?_eq_getElem (by omega:0 < (enc l[0]).length));have hspot:a.spot=none:=by simpa[Addr.add] using World.cell?_spot hu0
  obtain⟨b,off,spot⟩:=a;simp only at hspot;subst hspot;have hb:b < w.heap.size:=by
   rw[Addr.add_lit] at hu0;unfold World.cell? at hu0
   cases hh:w.heap[b]? with
   | none=>simp[hh] at hu0
   | some o=>exact(Array.getElem?_eq_some_iff.1 hh).1
  have hlen:(l.map enc).length=len:=by simp[h1]
  rw[<- hlen];refine .sl _ b off m k (fun i j=>(w.cell? ⟨b,off+(i*k+j),none⟩).getD undef) (by omega) hm trivial hb ?_ ?_ ?_
  ·intro i cs hi;rw[List.getElem?_map] at hi
   cases hx:l[i]? with
   | none=>simp[hx] at hi
   | some y=>simp[hx] at hi;subst hi;exact(h3 i y hx).1
  ·intro i j hi hj;have hil:i < l.length:=by simpa using hi
   obtain⟨e1,e2⟩:=h3 i _ (List.getElem?_eq_getElem hil);obtain⟨u,hu,_⟩:=e2 j _ (List.getElem?_eq_getElem (by omega:j < (enc l[i]).length));rw[Addr.add_lit] at hu;simp[hu]
  ·intro i cs j x hi hx;rw[List.getElem?_map] at hi
   cases hy:l[i]? with
   | none=>simp[hy] at hi
   | some y=>
    simp[hy] at hi;subst hi;obtain⟨u,hu,hd⟩:=(h3 i y hy).2 j x hx;rw[Addr.add_lit] at hu;simpa[hu] using hd
structure OpnF(P:Program)(fs:List Field)(off k:Nat){α:Type}(enc:α->List DV)(ok:α->Prop)(sz:α->Nat):Prop where
 op:∀ {H:Type} {en:TypeId×Value->H} {w:World} {n:Nat} {cs:List Value} {xs:List (DataW H×List MemPlace)},xs.length=fs.length ->
  (∀ (i:Nat) (f:Field),fs[i]?=some f->DataW.trod en P w 0 (fun _=>true) true n f.type ((cs.drop f.offset).take (P.cellsOf f.type))=xs[i]?) ->
  ∃ a,ok a/\(enc a).length=k/\(∀ (j:Nat) (y:DV) (u:Value),(enc a)[j]?=some y->cs[off+j]?=some u->DRd w All y u)/\sz a<=vd (xs.map (·.1))
theorem OpnF.nil(off:Nat):OpnF P [] off 0 (fun _:Unit=>[]) (fun _=>True) (fun _=>0):=⟨fun _ _=>⟨(),trivial,rfl,by simp,Nat.zero_le _⟩⟩
theorem OpnF.cons{f:Field}{fs:List Field}{off k1 k2:Nat}{α β:Type}{e1:α->List DV}{o1:α->Prop}{e2:β->List DV}{o2:β->Prop}{z1:α->Nat}{z2:β->Nat}(h1:Opn P f.type k1 e1 o1 z1)(ho:f.offset=off)(h2:OpnF P fs (off+k1) k2 e2 o2 z2) :
  OpnF P (f::fs) off (k1+k2) (fun p:α×β=>e1 p.1++e2 p.2) (fun p=>o1 p.1/\o2 p.2) (fun p=>z1 p.1+z2 p.2):=by
 refine⟨fun {H en w n cs xs} hlen hx=>?_⟩
 cases xs with
 | nil=>simp at hlen
 | cons x xs=>
  have hx0:=hx 0 f rfl;simp only[List.getElem?_cons_zero] at hx0;obtain⟨a,ha1,ha2,ha3,ha4,ha5⟩:=h1.op hx0;obtain⟨b,hb1,hb2,hb3,hb4⟩:=h2.op (xs:=xs) (by simpa using hlen) (fun i f' hf=>by have:=hx (i+1) f' (by simpa using hf);simpa using this);refine⟨(a,b),⟨ha1,hb1⟩,by simp[ha3,hb2],?_,by simp only[List.map_cons,vd];omega⟩;intro j y u hy hu;simp only[List.getElem?_append] at hy
  by_cases hj:j < k1
  ·rw[if_pos (by omega)] at hy;refine ha4 j y u hy ?_;rw[List.getElem?_take,h1.cells,if_pos hj,List.getElem?_drop,ho];exact hu
  ·rw[if_neg (by omega),ha3] at hy;refine hb3 (j - k1) y u hy ?_;rw[<- hu]
   congr 1
   omega
theorem Opn.struct{fs:List Field}{k:Nat}{α:Type}{enc:α->List DV}{ok:α->Prop}{sz:α->Nat}(hu:P.underlying t=some (.struct fs.toArray))(hc:P.cellsOf t=k)(h:OpnF P fs 0 k enc ok sz):Opn P t k enc ok (fun a=>sz a+1):=by
 refine⟨hc,fun {H en w fuel cs x} hx=>?_⟩;obtain⟨xs,n,_,hxe,hlen,hxl,hf⟩:=DataW.trod_struct hu hx;obtain⟨a,h1,h2,h3,h4⟩:=h.op (cs:=cs) (xs:=xs) (by simpa using hxl) (fun i f hi=>hf i f (by simpa using hi));exact⟨a,h1,by rw[hlen,hc],h2,fun j y u hy hu=>h3 j y u hy (by simpa using hu),by rw[hxe];simp only[qi];omega⟩
theorem Opn.arg{H:Type}{en:TypeId×Value->H}{w:World}{v:Value}{d:DataW H}{ps:List MemPlace}{α:Type}{enc:α->DV}{ok:α->Prop}{sz:α->Nat}(h:Opn P t 1 (fun a=>[enc a]) ok sz)
  (hx:DataW.Trod en P w 0 (fun _=>true) true t v d ps) (h1:v.oneCell'=true):∃ a,ok a/\Rd w g0 All (.d (enc a)) v/\sz a<=qi d:=by
 obtain⟨fuel,hf⟩:=hx;obtain⟨a,ha,_,_,hr,hz⟩:=h.op hf;have hcs:v.cells.toList=[v]:=by cases v <;> first | rfl | (simp[Value.oneCell'] at h1;done)
 exact⟨a,ha,.d (hr 0 _ v rfl (by rw[hcs];rfl)),hz⟩
theorem Wq{H:Type}{en:TypeId×Value->H}(hl:laidOutB P=true){W W':World}(hb:Below W.heap.size W W'):∀ {ts:List TypeId} {vs:List Value} {ds:List (DataW H)} {ps:List MemPlace},
  (∀ t∈ts,P.readableRec t=true/\t < P.types.size)->DataW.TrodAll en P W 0 (fun _=>true) true ts vs ds ps->(∀ x∈ps,x.block < W.heap.size)->DataW.TrodAll en P W' 0 (fun b=>decide (b < W.heap.size)) true ts vs ds ps
 | [],[],[],ps,_,h,_=>h
 | t::ts,v::vs,d::ds,ps,hr,h,hlt=>by
  obtain⟨p,q,h1,h2,rfl⟩:=h;have hrt:=hr t (by simp);exact⟨p,q,Below.trod hl hrt.1 hrt.2 h1 hb (fun x hx=>hlt x (List.mem_append.2 (.inl hx))),Wq hl hb (fun t ht=>hr t (by simp[ht])) h2 (fun x hx=>hlt x (List.mem_append.2 (.inr hx))),rfl⟩
 | [],[],_::_,_,_,h,_=>h.elim
 | [],_::_,_,_,_,h,_=>h.elim
 | _::_,[],_,_,_,h,_=>h.elim
 | _::_,_::_,[],_,_,h,_=>h.elim
theorem jR{H:Type}{en:TypeId×Value->H}{w:World}{base:Nat}{sp:Nat->Bool}{hd:Bool}:∀ {ts:List TypeId} {vs:List Value} {ds:List (DataW H)} {ps:List MemPlace},DataW.TrodAll en P w base sp hd ts vs ds ps->ds.length=ts.length
 | [],[],[],_,_=>rfl
 | _::_,_::_,_::_,_,h=>by
  obtain⟨_,_,_,h2,_⟩:=h;simp[jR h2]
 | [],[],_::_,_,h=>h.elim
 | [],_::_,_,_,h=>h.elim
 | _::_,[],_,_,h=>h.elim
 | _::_,_::_,[],_,h=>h.elim
theorem vBa{H:Type}{en:TypeId×Value->H}{fn:Func}{s:ChangeSpec}{tb:TypeId}{W W':World}{args:Array Value}{ds gs:List (DataW H)}{before:List MemPlace}(hl:laidOutB P=true)
  (hW:DataW.Whole en P fn.params.toList s.vars false W args.toList ds gs before) (hv:s.vars=[]) (hs:∀ ds:List (DataW H),ds.length=fn.params.size->(s.fn H ds).results=[.lit (.bool true)]/\(s.fn H ds).args=ds/\(s.fn H ds).vars=[])
  (hres:fn.resultTypes=#[tb]) (htb:P.underlying tb=some .bool) (hr:∀ t∈fn.params.toList,P.readableRec t=true/\t < P.types.size) (hb:Below W.heap.size W W') :
  s.post en P fn false true false false W args (.bool true) W':=by
 have hW':=hW;obtain⟨p,q,hA,hV,hpq,hfz,hnd⟩:=hW;rw[hv] at hV;obtain⟨rfl,rfl⟩:=trodVars_none hV;simp only[List.append_nil] at hpq;subst hpq;have hlt:∀ x∈before,x.block < W.heap.size:=fun x hx=>by simpa using hW'.lt x hx
 have hlen:ds.length=fn.params.size:=by simpa using jR hA
 obtain⟨e1,e2,e3⟩:=hs (ds++[]) (by simpa using hlen);refine⟨ds,[],before,[],before,[],hW',?_,?_,?_,hb.frame _,fun h=>by cases h⟩
 ·rw[e1,hres];exact trodAll_mk1 (shut_bool htb true)
 ·rw[e2,List.append_nil];exact Wq hl hb hr hA hlt
 ·rw[e3,hv];rfl
end
end Go.Ep
namespace Go.Ep
set_option linter.unusedVariables false
def L20Deed.ok(x:L20Deed):Prop:=okK .u8 x.kind/\okK .u8 x.who/\okK .u8 x.whom/\okK .u8 x.cid/\okK .u8 x.field
def L20Deed.sz(x:L20Deed):Nat:=(1+(1+(1+(1+(1+0)))))+1
end Go.Ep
namespace Go.Proofs
open Go.Ep
set_option maxRecDepth 100000
theorem opnL20Deed : Opn Tryz.prog 31 5 L20Deed.e L20Deed.ok L20Deed.sz:=(Opn.struct Tryz.underlying31 (by kernel_rfl) (OpnF.cons (Opn.int Tryz.underlying5 (by kernel_rfl)) rfl (OpnF.cons (Opn.int Tryz.underlying5 (by kernel_rfl)) rfl (OpnF.cons (Opn.int Tryz.underlying5 (by kernel_rfl)) rfl (OpnF.cons (Opn.int Tryz.underlying5 (by kernel_rfl)) rfl (OpnF.cons (Opn.int Tryz.underlying5 (by kernel_rfl)) rfl (OpnF.nil _))))))).map (fun p=>⟨p.1,p.2.1,p.2.2.1,p.2.2.2.1,p.2.2.2.2.1⟩) (fun _ _=>rfl) (fun p h=>⟨h.1,h.2.1,h.2.2.1,h.2.2.2.1,h.2.2.2.2.1⟩) (fun _=>Nat.le_refl _)
end Go.Proofs
