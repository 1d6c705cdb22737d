/- Texts that the walks and laws lean on, side by side. -/
import Derived.Test.YtnknnlhpcfmdpaaGreatProg
import Derived.KernelRfl
import Derived.ChangeKeysEq
import Derived.Test.YtnknnlhpcfmdpaaGreatAMo2
import Derived.Test.YtnknnlhpcfmdpaaGreatAMo3
set_option linter.unusedVariables false
set_option linter.unusedSimpArgs false
namespace Go.Ep
open Go.RowKit
theorem Shp.trans{x y z:DV}(h:Shp x y):Shp y z → Shp x z:=by
 induction h generalizing z with
 | eq x=>exact id
 | int k a b=>intro h2;cases h2 with
  | eq=>exact .int k a b
  | int _ _ c=>exact .int k a c
 | str a b=>intro h2;cases h2 with
  | eq=>exact .str a b
  | str _ c=>exact .str a c
 | sl l l' hl hk h ih=>
  intro h2
  cases h2 with
  | eq=>exact .sl l l' hl hk h
  | sl _ l2 hl2 hk2 h2=>
   refine .sl l l2 (hl.trans hl2) (fun i cs cs2 h1 h3=>?_) (fun i j cs cs2 x x2 h1 h3 h4 h5=>?_)
   ·have hi:i < l'.length:=by have:=(List.getElem?_eq_some_iff.1 h1).1;omega
    exact(hk i cs _ h1 (List.getElem?_eq_getElem hi)).trans (hk2 i _ cs2 (List.getElem?_eq_getElem hi) h3)
   ·have hi:i < l'.length:=by have:=(List.getElem?_eq_some_iff.1 h1).1;omega
    have hj:j < l'[i].length:=by rw[← hk i cs _ h1 (List.getElem?_eq_getElem hi)];exact(List.getElem?_eq_some_iff.1 h4).1
    exact ih i j cs _ x _ h1 (List.getElem?_eq_getElem hi) h4 (List.getElem?_eq_getElem hj) (h2 i j _ cs2 _ x2 (List.getElem?_eq_getElem hi) h3 (List.getElem?_eq_getElem hj) h5)
structure Spoils(w w':World)(b o:Nat)(v v':Value):Prop where
 size:w'.heap.size=w.heap.size
 other:∀ k,k≠b → w'.heap[k]?=w.heap[k]?
 kept:∀ cur T,w.heap[b]?=some (.cells cur T (0,0)) → ∃ cur',w'.heap[b]?=some (.cells cur' T (0,0))
 cell:w.cell? ⟨b,o,none⟩=some v
 cell':w'.cell? ⟨b,o,none⟩=some v'
 rest:∀ o',o'≠o → w'.cell? ⟨b,o',none⟩=w.cell? ⟨b,o',none⟩
 kind:(∃ k m n,v=.int k m ∧ v'=.int k n) ∨ ∃ m n,v=.string m ∧ v'=.string n
theorem Spoils.at_{w w':World}{b o:Nat}{v v':Value}(h:Spoils w w' b o v v')(b' o':Nat):w'.cell? ⟨b',o',none⟩=if b'=b ∧ o'=o then some v' else w.cell? ⟨b',o',none⟩:=by
 by_cases hb:b'=b
 ·subst hb
  by_cases ho:o'=o
  ·subst ho;rw[if_pos ⟨rfl,rfl⟩];exact h.cell'
  ·rw[if_neg (fun hh=>ho hh.2)];exact h.rest o' ho
 ·rw[if_neg (fun hh=>hb hh.1)];exact World.cell?_of_block (h.other b' hb)
theorem Spoils.one{w w':World}{b o:Nat}{v v':Value}(h:Spoils w w' b o v v'){S:Nat → Prop}{x:DV}(hd:DRd0 w true S x v):∃ x',Shp x x' ∧ DRd0 w' true S x' v':=by
 rcases h.kind with⟨k,m,n,rfl,rfl⟩ | ⟨m,n,rfl,rfl⟩
 ·cases hd with
  | v _ _=>exact⟨_,.int k m n,.v _ rfl⟩
 ·cases hd with
  | v _ _=>exact⟨_,.str m n,.v _ rfl⟩
theorem Spoils.data{w w':World}{b o:Nat}{v v':Value}(h:Spoils w w' b o v v'){S:Nat → Prop}{x:DV}{u:Value}(hd:DRd0 w true S x u):∃ x',Shp x x' ∧ DRd0 w' true S x' u:=by
 induction hd with
 | v x hx=>exact⟨_,.eq _,.v x hx⟩
 | nil a cap hc hn=>exact⟨_,.eq _,.nil a cap hc hn⟩
 | sl l b' off cap k c hl hcap hs hb hz hkk hc hr ih=>
  let c':Nat → Nat → Value:=fun i j=>if b'=b ∧ off+(i*k+j)=o then v' else c i j
  have key:∀ (i:Nat) (cs:List DV) (j:Nat) (x:DV),l[i]?=some cs → cs[j]?=some x → ∃ x',Shp x x' ∧ DRd0 w' true S x' (c' i j):=by
   intro i cs j x hi hj;show ∃ x',Shp x x' ∧ DRd0 w' true S x' (if b'=b ∧ off+(i*k+j)=o then v' else c i j)
   by_cases e:b'=b ∧ off+(i*k+j)=o
   ·rw[if_pos e];have hlt:i < l.length:=(List.getElem?_eq_some_iff.1 hi).1;have hjk:j < k:=by rw[← hkk i cs hi];exact(List.getElem?_eq_some_iff.1 hj).1
    have h1:=hc i j hlt hjk;obtain⟨e1,e2⟩:=e;subst e1;rw[e2,h.cell] at h1
    cases h1
    exact h.one (hr i cs j x hi hj)
   ·rw[if_neg e];exact ih i cs j x hi hj
  let F:Nat → Nat → DV → DV:=fun i j x=>Classical.epsilon fun x'=>Shp x x' ∧ DRd0 w' true S x' (c' i j)
  let l':List (List DV):=l.mapIdx fun i cs=>cs.mapIdx fun j x=>F i j x
  have hg:∀ (i:Nat) (cs':List DV),l'[i]?=some cs' → ∃ cs,l[i]?=some cs ∧ cs'=cs.mapIdx fun j x=>F i j x:=by
   intro i cs' hi;simp only[l',List.getElem?_mapIdx] at hi
   cases hh:l[i]? with
   | none=>rw[hh] at hi;cases hi
   | some cs=>rw[hh] at hi;simp at hi;exact⟨cs,rfl,hi.symm⟩
  have hF:∀ (i:Nat) (cs:List DV) (j:Nat) (x x':DV),l[i]?=some cs → cs[j]?=some x → (cs.mapIdx fun j x=>F i j x)[j]?=some x' → Shp x x' ∧ DRd0 w' true S x' (c' i j):=by
   intro i cs j x x' hi hj hx;rw[List.getElem?_mapIdx,hj] at hx;simp only[Option.map_some,Option.some.injEq] at hx;subst hx;have hk:=key i cs j x hi hj;exact Classical.epsilon_spec (p:=fun x'=>Shp x x' ∧ DRd0 w' true S x' (c' i j)) hk
  have hll:l'.length=l.length:=by simp[l']
  refine⟨.sl l',.sl l l' hll.symm (fun i cs cs' h1 h2=>?_) (fun i j cs cs' x x' h1 h2 h3 h4=>?_),?_⟩
  ·obtain⟨cs0,h3,rfl⟩:=hg i cs' h2;rw[h1] at h3;cases h3;simp
  ·obtain⟨cs0,h5,rfl⟩:=hg i cs' h2;rw[h1] at h5;cases h5;exact(hF i cs j x x' h1 h3 h4).1
  ·rw[← hll];refine .sl l' b' off cap k c' (by omega) hcap hs (by rw[h.size];exact hb) (fun _=>?_) (fun i cs' hi=>?_) (fun i j hi hj=>?_) (fun i cs' j x' hi hx=>?_)
   ·obtain⟨cur,T,hh⟩:=hz rfl
    by_cases e:b'=b
    ·subst e;obtain⟨cur',hh'⟩:=h.kept cur T hh;exact⟨cur',T,hh'⟩
    ·exact⟨cur,T,by rw[h.other b' e];exact hh⟩
   ·obtain⟨cs0,h3,rfl⟩:=hg i cs' hi;simp[hkk i cs0 h3]
   ·rw[h.at_];show _=some (if b'=b ∧ off+(i*k+j)=o then v' else c i j)
    by_cases e:b'=b ∧ off+(i*k+j)=o
    ·rw[if_pos e,if_pos e]
    ·rw[if_neg e,if_neg e];exact hc i j (by omega) hj
   ·obtain⟨cs0,h3,rfl⟩:=hg i cs' hi;rw[List.getElem?_mapIdx] at hx
    cases hx0:cs0[j]? with
    | none=>rw[hx0] at hx;cases hx
    | some x0=>
     exact(hF i cs0 j x0 x' h3 hx0 (by rw[List.getElem?_mapIdx];exact hx)).2
def DV.spSl : DV → Bool
 | .sp _ (.sl _)=>true
 | _=>false
def DV.spOK : DV → Bool
 | .v _=>true
 | .sp _ _=>true
 | .sl l=>l.all fun cs=>cs.all DV.spSl
 | _=>false
def PV.spOK : PV → Bool
 | .d x=>x.spOK
 | .sq _ _=>true
 | .ref _ _=>true
 | .row _ _=>true
 | .rp _ _ _ _=>true
 | .junk=>true
 | .und=>true
 | _=>false
def Ob.spOK : Ob → Bool
 | .cells _ cs=>cs.all PV.spOK
 | _=>false
theorem Spoils.dv{w w':World}{b o:Nat}{v v':Value}(h:Spoils w w' b o v v'){S:Nat → Prop}{x:DV}{u:Value}(hx:x.spOK=true)(hd:DRd w S x u):DRd w' S x u:=by
 cases hd with
 | v _ h1=>exact .v _ h1
 | sp N x x' u hs h0=>obtain⟨x2,h2,h3⟩:=h.data h0;exact .sp N x x2 u (hs.trans h2) h3
 | nil a cap hc hn=>exact .nil a cap hc hn
 | sl l b' off cap k c hl hcap hS hb hkk hc hr=>
  have hsp:∀ (i:Nat) (cs:List DV) (j:Nat) (y:DV),l[i]?=some cs → cs[j]?=some y → ∃ N l2,y=.sp N (.sl l2):=fun i cs j y hi hj=>by
   have h1:=List.all_eq_true.1 hx cs (List.mem_of_getElem? hi);have h2:=List.all_eq_true.1 h1 y (List.mem_of_getElem? hj);unfold DV.spSl at h2
   split at h2
   ·exact⟨_,_,rfl⟩
   ·cases h2
  have hsl:∀ (i:Nat) (cs:List DV) (j:Nat) (y:DV),l[i]?=some cs → cs[j]?=some y → ∃ a n q,c i j=.slice a n q:=fun i cs j y hi hj=>by
   obtain⟨N,l2,rfl⟩:=hsp i cs j y hi hj;have:=hr i cs j _ hi hj
   generalize c i j=z at this
   cases this with
   | sp _ _ x' _ hs h0=>
    have:∃ l3,x'=.sl l3:=by
     cases hs with
     | eq=>exact⟨_,rfl⟩
     | sl _ l3=>exact⟨l3,rfl⟩
    obtain⟨l3,rfl⟩:=this
    cases h0 with
    | nil a cap=>exact⟨_,_,_,rfl⟩
    | sl=>exact⟨_,_,_,rfl⟩
  refine .sl l b' off cap k c hl hcap hS (by rw[h.size];exact hb) hkk (fun i j hi hj=>?_) (fun i cs j y hi hj=>?_)
  ·rw[h.at_]
   by_cases e:b'=b ∧ off+(i*k+j)=o
   ·exfalso;have hi':=List.getElem?_eq_getElem hi;have hj':j < l[i].length:=by rw[hkk i _ hi'];exact hj
    obtain⟨a,n,q,h5⟩:=hsl i _ j _ hi' (List.getElem?_eq_getElem hj');have h6:=hc i j hi hj;obtain⟨e1,e2⟩:=e;subst e1;rw[e2,h.cell,h5] at h6
    cases h6
    rcases h.kind with⟨_,_,_,h7,_⟩ | ⟨_,_,h7,_⟩ <;> cases h7
   ·rw[if_neg e];exact hc i j hi hj
  ·obtain⟨N,l2,rfl⟩:=hsp i cs j y hi hj;have:=hr i cs j _ hi hj
   generalize c i j=z at this
   cases this with
   | sp _ _ x' _ hs h0=>obtain⟨x2,h2,h3⟩:=h.data h0;exact .sp N _ x2 _ (hs.trans h2) h3
 | _=>cases hx
theorem Spoils.pv{w w':World}{b o:Nat}{v v':Value}(h:Spoils w w' b o v v'){g:Ghost}{S:Nat → Prop}{p:PV}{u:Value}(hp:p.spOK=true)(hd:Rd w g S p u):Rd w' g S p u:=by
 cases hd with
 | junk=>exact .junk _
 | und=>exact .und
 | d hd=>exact .d (h.dv hp hd)
 | ref id off blk n h=>exact .ref id off blk n h
 | row id n blk cap h=>exact .row id n blk cap h
 | rowNil id h=>exact .rowNil id h
 | rp id i off k blk cap h=>exact .rp id i off k blk cap h
 | sq cs b1 off o1 c hS hb hz hc hr=>
  refine .sq cs b1 off o1 (fun j=>if b1=b ∧ off+j=o then v' else c j) hS (by rw[h.size];exact hb) ?_ (fun j hj=>?_) (fun j x hx=>?_)
  ·obtain⟨cur,T,hh⟩:=hz
   by_cases e:b1=b
   ·subst e;obtain⟨cur',hh'⟩:=h.kept cur T hh;exact⟨cur',T,hh'⟩
   ·exact⟨cur,T,by rw[h.other b1 e];exact hh⟩
  ·rw[h.at_]
   by_cases e:b1=b ∧ off+j=o
   ·rw[if_pos e];simp only[if_pos e]
   ·rw[if_neg e];simp only[if_neg e];exact hc j hj
  ·obtain⟨x',h1,h2⟩:=hr j x hx
   by_cases e:b1=b ∧ off+j=o
   ·simp only[if_pos e];have hcj:=hc j (List.getElem?_eq_some_iff.1 hx).1;obtain⟨e1,e2⟩:=e;subst e1;rw[e2,h.cell] at hcj
    cases hcj
    obtain⟨x2,h3,h4⟩:=h.one h2;exact⟨x2,h1.trans h3,h4⟩
   ·simp only[if_neg e];obtain⟨x2,h3,h4⟩:=h.data h2;exact⟨x2,h1.trans h3,h4⟩
 | _=>cases hp
def PState.spOK(s:PState):Bool:=s.sl.all (fun x=>x.2.spOK)&&s.objs.all (fun x=>x.2.spOK)
theorem Shp.slE{l:List (List DV)}{x':DV}(h:Shp (.sl l) x'):∃ l',x'=.sl l' ∧ l.length=l'.length ∧ (∀ (i:Nat) (cs cs':List DV),l[i]?=some cs → l'[i]?=some cs' → cs.length=cs'.length) ∧
  ∀ (i j:Nat) (cs cs':List DV) (x x':DV),l[i]?=some cs → l'[i]?=some cs' → cs[j]?=some x → cs'[j]?=some x' → Shp x x':=by
 cases h with
 | eq=>exact⟨l,rfl,rfl,fun i cs cs' h1 h2=>by rw[h1] at h2;cases h2;rfl,fun i j cs cs' x x' h1 h2 h3 h4=>by rw[h1] at h2;cases h2;rw[h3] at h4;cases h4;exact .eq _⟩
 | sl _ l' hl hk h=>exact⟨l',rfl,hl,hk,h⟩
section
variable{P:Program}{ctx:Ctx}{Q:PQ}{s:PState}
variable{dst:Option Tmp}{ty:TypeId}{pos:String}{after:Array Edge}{gd:Option (Nat×Bool)}
theorem LR.idxSp{x ix:Operand}{N:Nat → Prop}{l:List (List DV)}{ki:IntKind}{i:Int}{n k:Nat}{cs:List DV}{t e:TypeId}(hu:P.underlying t=some (.slice e))(hs:∀ w,(sizeOf e).run P w=.ok k w)
  (hx:s.ev x=some (.d (.sp N (.sl l)))) (hix:s.ev ix=some (.d (.v (.int ki i)))) (hi:i=n) (hn:l[n]?=some cs) (hk:cs.length=k) :
  Local P ctx ⟨dst,.indexAddr t x ix,ty,pos,after,gd⟩ s (s.putD dst (.sq cs 0)):=
 local_pure (o:=⟨dst,.indexAddr t x ix,ty,pos,after,gd⟩) fun a w g hg=>by
  have h:=hg.ev hx
  generalize hv:a.eval x=v at h
  cases h with
  | d h=>
   cases h with
   | sp _ _ x' _ hsh h0=>
    obtain⟨l',rfl,hll,hlk,hle⟩:=hsh.slE;have hlt:n < l.length:=(List.getElem?_eq_some_iff.1 hn).1
    cases h0 with
    | nil=>have h9:l.length=0:=hll;omega
    | sl _ b off cap k' c hl hcap hS hb hz hkk hc hr=>
     have hlt':n < l'.length:=by omega
     have hcs':=List.getElem?_eq_getElem hlt';have hk':k'=k:=by rw[← hkk n _ hcs',← hlk n cs _ hn hcs',hk]
     subst hk';refine⟨.pointer (some ⟨b,off+n*k'+0,none⟩),?_,.sq cs b (off+n*k') 0 (c n) hS.1 hb (hz rfl) ?_ ?_⟩
     ·simp[execOp,hv,ev_int hg hix,run_indexAt hu hs b off l'.length cap ki i n hi hlt',Result.andThen]
     ·intro j hj;rw[Nat.add_assoc];exact hc n j hlt' (by omega)
     ·intro j x hx;have hj:j < l'[n].length:=by rw[← hlk n cs _ hn hcs'];exact(List.getElem?_eq_some_iff.1 hx).1
      exact⟨_,hle n j cs _ x _ hn hcs' hx (List.getElem?_eq_getElem hj),(hr n _ j _ hcs' (List.getElem?_eq_getElem hj)).mono fun b hb=>hb.1⟩
theorem LR.fieldSq{x:Operand}{st:TypeId}{fs:Array Field}{fi off m:Nat}{f:Field}(hu:P.underlying st=some (.struct fs))(hf:fs[fi]?=some f)(hs:∀ w,(sizeOf f.type).run P w=.ok m w)(hm:m≠0)(ho:f.offset=off)
  {cs:List DV} {o:Nat} (hx:s.ev x=some (.sq cs o)):Local P ctx ⟨dst,.fieldAddr st x fi,ty,pos,after,gd⟩ s (s.putD dst (.sq cs (o+off))):=
 local_pure (o:=⟨dst,.fieldAddr st x fi,ty,pos,after,gd⟩) fun a w g hg=>by
  have h:=hg.ev hx
  generalize hv:a.eval x=v at h
  cases h with
  | sq _ b ofs _ c hS hb hz hc hr=>
   refine⟨.pointer (some ⟨b,ofs+(o+off),none⟩),?_,.sq cs b ofs _ c hS hb hz hc hr⟩;simp[execOp,hv,run_fieldAt hu hf hs hm,Addr.add_lit,ho,Result.andThen,Nat.add_assoc]
theorem LR.loadSq{x:Operand}{o:Nat}{T:TypeId}{cs:List DV}{y:DV}(ha:∀ w,(isAgg T).run P w=.ok false w)(hx:s.ev x=some (.sq cs o))(hy:cs[o]?=some y) :
  Local P ctx ⟨dst,.load T x,ty,pos,after,gd⟩ s (s.putD dst (.d (.sp (fun _=>True) y))):=
 local_pure (o:=⟨dst,.load T x,ty,pos,after,gd⟩) fun a w g hg=>by
  have h:=hg.ev hx
  generalize hv:a.eval x=v at h
  cases h with
  | sq _ b off _ c hS hb hz hc hr=>
   have hlt:o < cs.length:=(List.getElem?_eq_some_iff.1 hy).1;obtain⟨x',h1,h2⟩:=hr o y hy;refine⟨c o,?_,.d (.sp _ y x' _ h1 (h2.mono fun b hb=>⟨hb,trivial⟩))⟩;have:=run_loadOne (P:=P) ha (w:=w) (ad:=⟨b,off+o,none⟩) (u:=c o) (hc o hlt);simp[execOp,hv,Instr.loadAt,Instr.sureAddr,this,Result.andThen]
theorem LR.lenSp{x:Operand}{N:Nat → Prop}{l:List (List DV)}{t e:TypeId}(hu:P.underlying t=some (.slice e))(hx:s.ev x=some (.d (.sp N (.sl l)))) :
  Local P ctx ⟨dst,.call ⟨.builtin .len,#[x],#[t]⟩,ty,pos,after,gd⟩ s (s.putD dst (.d (.v (.int .i64 l.length)))):=
 local_pure (o:=⟨dst,.call ⟨.builtin .len,#[x],#[t]⟩,ty,pos,after,gd⟩) fun a w g hg=>by
  have h:=hg.ev hx;have hE:P.underlying t=some (.slice (P.elem t)):=by simp[Program.elem,hu]
  refine⟨.int .i64 l.length,?_,.d (.v _ rfl)⟩
  cases h with
  | d h=>
   generalize hv:a.eval x=v at h
   cases h with
   | sp _ _ x' _ hsh h0=>
    obtain⟨l',rfl,hll,_,_⟩:=hsh.slE;rw[hll]
    cases h0 <;> simp[execOp,resolve,invoke,builtin,hv,run_len_slice,hE,Result.andThen,goInt]
theorem LR.addSp{x y:Operand}{N:Nat → Prop}{k:IntKind}{m n:Int}{t t':TypeId}(hx:s.ev x=some (.d (.sp N (.v (.int k m)))))(hy:s.ev y=some (.d (.v (.int k n)))) :
  Local P ctx ⟨dst,.binOp .add t x y t',ty,pos,after,gd⟩ s (s.putD dst (.d (.sp N (.v (.int k m))))):=
 local_pure (o:=⟨dst,.binOp .add t x y t',ty,pos,after,gd⟩) fun a w g hg=>by
  have h:=hg.ev hx
  generalize hv:a.eval x=v at h
  cases h with
  | d h=>
   cases h with
   | sp _ _ x' _ hsh h0=>
    have:∃ z,x'=.v (.int k z):=by cases hsh with | eq=>exact⟨_,rfl⟩ | int _ _ z=>exact⟨z,rfl⟩
    obtain⟨z,rfl⟩:=this
    cases h0 with
    | v _ _=>
     refine⟨.int k (k.wrap (z+n)),by simp[execOp,hv,ev_int hg hy,eqGuard_at_int,binOp_add,Op.intArith,Result.andThen],.d (.sp _ _ (.v (.int k (k.wrap (z+n)))) _ (.int k m _) (.v _ rfl))⟩
theorem local_spoil{x y:Operand}{T:TypeId}{cs:List DV}{o:Nat}(hSK:∀ b,ctx.S b → ctx.K b)(hok:s.spOK=true)(hs:∀ w,(sizeOf T).run P w=.ok 1 w)(hx:s.ev x=some (.sq cs o)){z:DV}(hz0:cs[o]?=some z)
  (hy:∀ a w g,RelG ctx g s a w → ∀ z' u,Shp z z' → DRd0 w true (Free ctx g s.objs) z' u → (a.eval y).cells=[a.eval y].toArray ∧ (a.eval y).oneCell'=true ∧ ((∃ k m n,u=.int k m ∧ a.eval y=.int k n) ∨ ∃ m n,u=.string m ∧ a.eval y=.string n)) :
  Local P ctx ⟨none,.store T x y,ty,pos,after,gd⟩ s s:=by
 refine local_skip (o:=⟨none,.store T x y,ty,pos,after,gd⟩) fun a w g hg=>?_
 have h:=hg.ev hx
 generalize hv:a.eval x=v at h
 cases h with
 | sq _ b off _ c hS hb hz hc hr=>
  obtain⟨cur,T0,hh⟩:=hz;have hlt:o < cs.length:=(List.getElem?_eq_some_iff.1 hz0).1;obtain⟨z',hz1,hz2⟩:=hr o z hz0;obtain⟨hcell,hone,hkind⟩:=hy a w g hg z' _ hz1 hz2;have hcur:cur.toList[off+o]?=some (c o):=by
   have:=hc o hlt;rw[cell_of_heap (us:=cur.toList) (T:=T0) (by simpa using hh)] at this;exact this
  have hl2:off+o < cur.toList.length:=(List.getElem?_eq_some_iff.1 hcur).1;have hst:=run_storeVar (P:=P) (T:=T) (o:=off+o) (vs:=[a.eval y]) (cur:=cur.toList) (T0:=T0) (blk:=b) (w:=w) (by simpa using hh) hcell hs (by simp;simp at hl2;omega) (by simpa using hone)
  let new:Array Value:=(cur.toList.take (off+o)++[a.eval y]++cur.toList.drop (off+o+1)).toArray
  have hnew:(w.setRow b new).heap[b]?=some (.cells new T0 (0,0)):=heap_setRow_same hh;have hother:∀ k,k≠b → (w.setRow b new).heap[k]?=w.heap[k]?:=fun k hne=>setRow_other w b k _ hne
  have hget:∀ t,new.toList[t]?=if t=off+o then some (a.eval y) else cur.toList[t]?:=fun t=>by
   have l1:(cur.toList.take (off+o)).length=off+o:=by simp;simp at hl2;omega
   simp only[new,List.append_assoc,List.getElem?_append,l1]
   by_cases h1:t < off+o
   ·rw[if_pos h1,if_neg (by omega),List.getElem?_take,if_pos h1]
   ·rw[if_neg h1]
    by_cases h2:t=off+o
    ·subst h2;simp
    ·rw[if_neg h2,if_neg (by simp;omega),List.getElem?_drop]
     congr 1
     simp;omega
  have sp:Spoils w (w.setRow b new) b (off+o) (c o) (a.eval y):=by
   refine⟨by simp,hother,fun cur1 T1 h1=>?_,hc o hlt,?_,fun o' ho'=>?_,hkind⟩
   ·rw[hh] at h1;cases h1;exact⟨new,hnew⟩
   ·rw[cell_of_heap (us:=new.toList) (T:=T0) (by simpa using hnew),hget,if_pos rfl]
   ·rw[cell_of_heap (us:=new.toList) (T:=T0) (by simpa using hnew),cell_of_heap (us:=cur.toList) (T:=T0) (by simpa using hh),hget,if_neg ho']
  have hok':(∀ x∈s.sl,x.2.spOK=true) ∧ ∀ x∈s.objs,x.2.spOK=true:=by
   simpa[PState.spOK,List.all_eq_true] using hok
  refine⟨w.setRow b new,by simp[execOp,hv,Instr.storeAt,Instr.sureAddr,hst,Result.andThen,new],g,?_⟩;refine⟨hg.defers,hg.size,fun i p hp=>sp.pv (hok'.1 _ (getS_mem (at_get hp))) (hg.slots i p hp),fun id ob hob=>?_,hg.inj,fun id ob b' n hob hgi=>?_,hg.os,hg.tape,hg.output,by rw[sp.size];exact hg.grows,fun k hk hnk=>?_⟩
  ·have hobs:=hok'.2 _ (look_mem hob);have hrd:=hg.objs id ob hob
   cases hrd with
   | cells T1 cs1 blk n us hgi hh1 hl1 hr1 h11=>
    have hne:blk≠b:=fun e=>by subst e;exact hS.2 id _ n hob hgi
    refine .cells T1 cs1 blk n us hgi (by rw[hother blk hne];exact hh1) hl1 (fun i p u hp hu=>?_) h11;simp only[Ob.spOK,List.all_eq_true] at hobs;exact sp.pv (hobs p (List.mem_of_getElem? hp)) (hr1 i p u hp hu)
   | _=>simp[Ob.spOK] at hobs
  ·have:=hg.own id ob b' n hob hgi;exact⟨by rw[sp.size];exact this.1,this.2⟩
  ·by_cases e:k=b
   ·subst e;rcases hS.1 with h1 | h1
    ·exact(hnk (hSK _ h1)).elim
    ·omega
   ·rw[hother k e];exact hg.keep k hk hnk
theorem LR.storeSpI{x y:Operand}{T:TypeId}{cs:List DV}{o:Nat}{N:Nat → Prop}{k:IntKind}{m n:Int}(hSK:∀ b,ctx.S b → ctx.K b)(hok:s.spOK=true)(hs:∀ w,(sizeOf T).run P w=.ok 1 w)(hx:s.ev x=some (.sq cs o))(hz0:cs[o]?=some (.v (.int k m)))
  (hy:s.ev y=some (.d (.sp N (.v (.int k n))))):Local P ctx ⟨none,.store T x y,ty,pos,after,gd⟩ s s:=
 local_spoil hSK hok hs hx hz0 fun a w g hg z' u h1 h2=>by
  have hu:∃ m',u=.int k m':=by
   cases h1 with
   | eq=>cases h2 with | v _ _=>exact⟨_,rfl⟩
   | int _ _ b=>cases h2 with | v _ _=>exact⟨_,rfl⟩
  obtain⟨m',rfl⟩:=hu;have h:=hg.ev hy
  generalize a.eval y=v at h
  cases h with
  | d h=>
   cases h with
   | sp _ _ x' _ hsh h0=>
    have hv:∃ n',v=.int k n':=by
     cases hsh with
     | eq=>cases h0 with | v _ _=>exact⟨_,rfl⟩
     | int _ _ b=>cases h0 with | v _ _=>exact⟨_,rfl⟩
    obtain⟨n',rfl⟩:=hv;exact⟨rfl,rfl,.inl ⟨k,m',n',rfl,rfl⟩⟩
theorem LR.storeSpS{x y:Operand}{T:TypeId}{cs:List DV}{o:Nat}{m n:ByteArray}(hSK:∀ b,ctx.S b → ctx.K b)(hok:s.spOK=true)(hs:∀ w,(sizeOf T).run P w=.ok 1 w)(hx:s.ev x=some (.sq cs o))(hz0:cs[o]?=some (.v (.string m)))
  (hy:s.ev y=some (.d (.v (.string n)))):Local P ctx ⟨none,.store T x y,ty,pos,after,gd⟩ s s:=
 local_spoil hSK hok hs hx hz0 fun a w g hg z' u h1 h2=>by
  have hu:∃ m',u=.string m':=by
   cases h1 with
   | eq=>cases h2 with | v _ _=>exact⟨_,rfl⟩
   | str _ b=>cases h2 with | v _ _=>exact⟨_,rfl⟩
  obtain⟨m',rfl⟩:=hu;have h:a.eval y=.string n:=ev_v hg hy;rw[h];exact⟨rfl,rfl,.inr ⟨m',n,rfl,rfl⟩⟩
end
inductive FL : ((DV → DV) → List DV) → Prop
 | nil:FL fun _=>[]
 | v {F:(DV → DV) → List DV} (x:Value) (t:FL F):FL fun f=>.v x::F f
 | f {F:(DV → DV) → List DV} (y:DV) (t:FL F):FL fun f=>f y::F f
theorem FL.get{F:(DV → DV) → List DV}(h:FL F):(∀ f f',(F f).length=(F f').length) ∧ ∀ i:Nat,(∀ f,(F f)[i]?=none) ∨ (∃ x,∀ f,(F f)[i]?=some (.v x)) ∨ ∃ y,∀ f,(F f)[i]?=some (f y):=by
 induction h with
 | nil=>exact⟨fun _ _=>rfl,fun i=>.inl fun _=>by simp⟩
 | v x t ih=>
  refine⟨fun f f'=>by simp[ih.1 f f'],fun i=>?_⟩
  cases i with
  | zero=>exact .inr (.inl ⟨x,fun _=>by simp⟩)
  | succ i=>
   rcases ih.2 i with h | ⟨y,h⟩ | ⟨y,h⟩
   ·exact .inl fun f=>by simpa using h f
   ·exact .inr (.inl ⟨y,fun f=>by simpa using h f⟩)
   ·exact .inr (.inr ⟨y,fun f=>by simpa using h f⟩)
 | f y t ih=>
  refine⟨fun f f'=>by simp[ih.1 f f'],fun i=>?_⟩
  cases i with
  | zero=>exact .inr (.inr ⟨y,fun _=>by simp⟩)
  | succ i=>
   rcases ih.2 i with h | ⟨z,h⟩ | ⟨z,h⟩
   ·exact .inl fun f=>by simpa using h f
   ·exact .inr (.inl ⟨z,fun f=>by simpa using h f⟩)
   ·exact .inr (.inr ⟨z,fun f=>by simpa using h f⟩)
def oldB(B:Nat):Nat → Prop:=fun b=>b < B
def newB(ctx:Ctx)(B:Nat):Nat → Prop:=fun b=>B ≤ b ∧ ctx.w0.heap.size ≤ b
def anyB : Nat → Prop:=fun _=>True
theorem FL.obj{F:(DV → DV) → List DV}(hF:FL F){w w':World}{g g':Ghost}{S S':Nat → Prop}{id blk n:Nat}{T:TypeId}{f f':DV → DV}(h:ObRd w g S id (.cells T ((F f).map .d)))(hg:g id=some (blk,n))(hg':g' id=some (blk,n))(hh:w'.heap[blk]?=w.heap[blk]?)
  (hf:∀ y u,DRd w S (f y) u → DRd w' S' (f' y) u):ObRd w' g' S' id (.cells T ((F f').map .d)):=by
 cases h with
 | cells _ _ blk' n' us h1 h2 h3 h4 h5=>
  rw[hg] at h1
  cases h1
  refine .cells T _ blk n us hg' (by rw[hh];exact h2) (by rw[← h3];simp[hF.get.1 f' f]) (fun i p u hp hu=>?_) h5;rw[List.getElem?_map] at hp;rcases hF.get.2 i with h | ⟨x,h⟩ | ⟨y,h⟩
  ·rw[h] at hp;cases hp
  ·rw[h] at hp;cases hp;have:=h4 i (.d (.v x)) u (by rw[List.getElem?_map,h];rfl) hu
   cases this with
   | d hd=>cases hd with | v _ h6=>exact .d (.v _ h6)
  ·rw[h] at hp;cases hp;have:=h4 i (.d (f y)) u (by rw[List.getElem?_map,h];rfl) hu
   cases this with
   | d hd=>exact .d (hf y u hd)
theorem cells_g{w:World}{g:Ghost}{S:Nat → Prop}{id:Nat}{T:TypeId}{cs:List PV}(h:ObRd w g S id (.cells T cs)):∃ blk n,g id=some (blk,n):=by
 cases h with
 | cells _ _ blk n _ h=>exact⟨blk,n,h⟩
theorem spoilPhase{ctx:Ctx}{n B:Nat}{T:TypeId}{F1 F3 F4:(DV → DV) → List DV}(hF1:FL F1)(hF3:FL F3)(hF4:FL F4){a:Act}{w:World}
  (hr:Rel ctx ⟨n,[(1,.ref 1 0),(3,.ref 3 0),(4,.ref 4 0)],[(1,.cells T ((F1 (.od (oldB B))).map .d)),(3,.cells T ((F3 (.od (oldB B))).map .d)),(4,.cells T ((F4 (.nw (newB ctx B))).map .d))]⟩ a w) (hn:4 < n) :
  ∃ (ctx':Ctx) (p1 p3:Value),(∀ b,ctx'.S b → ctx'.K b) ∧ (∀ b,ctx'.K b → ctx'.S b) ∧
   Rel ctx' ⟨n,[(1,.d (.v p1)),(3,.d (.v p3)),(4,.ref 4 0)],[(4,.cells T ((F4 (.sp anyB)).map .d))]⟩ a w ∧
   ∀ a' w',Rel ctx' ⟨n,[(1,.d (.v p1)),(3,.d (.v p3))],[]⟩ a' w' → Rel ctx ⟨n,[(1,.ref 1 0),(3,.ref 3 0)],[(1,.cells T ((F1 (.od (oldB B))).map .d)),(3,.cells T ((F3 (.od (oldB B))).map .d))]⟩ a' w':=by
 obtain⟨g,hg⟩:=hr
 generalize hs:(⟨n,[(1,.ref 1 0),(3,.ref 3 0),(4,.ref 4 0)],[(1,.cells T ((F1 (.od (oldB B))).map .d)),(3,.cells T ((F3 (.od (oldB B))).map .d)),(4,.cells T ((F4 (.nw (newB ctx B))).map .d))]⟩:PState)=s at hg
 have l1:look s.objs 1=some (.cells T ((F1 (.od (oldB B))).map .d)):=by subst hs;rfl
 have l3:look s.objs 3=some (.cells T ((F3 (.od (oldB B))).map .d)):=by subst hs;rfl
 have l4:look s.objs 4=some (.cells T ((F4 (.nw (newB ctx B))).map .d)):=by subst hs;rfl
 have a1:s.at 1=some (.ref 1 0):=by subst hs;exact at_of (by simp;omega) rfl
 have a3:s.at 3=some (.ref 3 0):=by subst hs;exact at_of (by simp;omega) rfl
 have a4:s.at 4=some (.ref 4 0):=by subst hs;exact at_of (by simp;omega) rfl
 have hsn:s.n=n:=by subst hs;rfl
 obtain⟨b1,n1,g1⟩:=cells_g (hg.objs 1 _ l1);obtain⟨b3,n3,g3⟩:=cells_g (hg.objs 3 _ l3);obtain⟨b4,n4,g4⟩:=cells_g (hg.objs 4 _ l4);have ne1:b1≠b4:=fun e=>by have:=hg.inj 1 4 _ _ b1 n1 n4 l1 l4 g1 (by rw[e];exact g4);cases this
 have ne3:b3≠b4:=fun e=>by have:=hg.inj 3 4 _ _ b3 n3 n4 l3 l4 g3 (by rw[e];exact g4);cases this
 let S':Nat → Prop:=fun b=>(Free ctx g s.objs b ∧ newB ctx B b) ∨ b=b4
 let ctx':Ctx:=⟨w,S',S'⟩
 have own4:=hg.own 4 _ b4 n4 l4 g4;have p1:a.tmps.getD 1 undef=.pointer (some ⟨b1,0,none⟩):=by
  have:=hg.slots 1 _ a1
  generalize a.tmps.getD 1 undef=v at this
  cases this with | ref _ _ blk m h=>rw[g1] at h;cases h;rfl
 have p3:a.tmps.getD 3 undef=.pointer (some ⟨b3,0,none⟩):=by
  have:=hg.slots 3 _ a3
  generalize a.tmps.getD 3 undef=v at this
  cases this with | ref _ _ blk m h=>rw[g3] at h;cases h;rfl
 refine⟨ctx',.pointer (some ⟨b1,0,none⟩),.pointer (some ⟨b3,0,none⟩),fun _ h=>h,fun _ h=>h,⟨g,?_⟩,?_⟩
 ·refine⟨hg.defers,hg.size.trans hsn,fun i p hp=>?_,fun id o ho=>?_,fun i j oi oj b m k hi hj _ _=>?_,fun id o b m ho hgi=>?_,rfl,rfl,rfl,Nat.le_refl _,fun k _ _=>rfl⟩
  ·have hp':=at_get hp;simp only[getS_cons] at hp'
   split at hp'
   ·rename_i e;subst e;cases hp';rw[p1];exact .d (.v _ rfl)
   ·split at hp'
    ·rename_i e;subst e;cases hp';rw[p3];exact .d (.v _ rfl)
    ·split at hp'
     ·rename_i e;subst e;cases hp'
      have:=hg.slots 4 _ a4
      generalize a.tmps.getD 4 undef=v at this
      cases this with | ref _ _ blk m h=>exact .ref 4 0 blk m h
     ·simp[getS] at hp'
  ·simp only[look] at ho
   split at ho
   ·rename_i e;subst e;cases ho
    refine hF4.obj (hg.objs 4 _ l4) g4 g4 rfl fun y u hd=>?_
    cases hd with
    | nw _ _ _ h0=>
     refine .sp _ y y u (.eq y) (h0.mono fun b hb=>⟨⟨.inl (.inl hb),fun id o m ho hgi=>?_⟩,trivial⟩);simp only[look] at ho
     split at ho
     ·rename_i e;subst e;exact hb.1.2 4 _ m l4 hgi
     ·cases ho
   ·cases ho
  ·simp only[look] at hi hj
   split at hi
   ·rename_i e;split at hj
    ·rename_i e2;exact e.trans e2.symm
    ·cases hj
   ·cases hi
  ·simp only[look] at ho
   split at ho
   ·rename_i e;subst e;rw[g4] at hgi;cases hgi;exact⟨own4.1,.inr (.inr rfl)⟩
   ·cases ho
 ·rintro a' w' ⟨g2,h2⟩;have hK1:¬ S' b1:=fun h=>by
   rcases h with h | h
   ·exact h.1.2 1 _ n1 l1 g1
   ·exact ne1 h
  have hK3:¬ S' b3:=fun h=>by
   rcases h with h | h
   ·exact h.1.2 3 _ n3 l3 g3
   ·exact ne3 h
  have own1:=hg.own 1 _ b1 n1 l1 g1;have own3:=hg.own 3 _ b3 n3 l3 g3;have hst:Stays w w' (fun b=>Free ctx g s.objs b ∧ oldB B b):=⟨h2.grows,fun b hb hlt=>h2.keep b hlt fun h=>by
   rcases h with h | h
   ·have h3:b < B:=hb.2;have h4:B ≤ b:=h.2.1;omega
   ·subst h;exact hb.1.2 4 _ n4 l4 g4⟩
  have hfr:∀ b,Free ctx g s.objs b → Free ctx g [(1,.cells T ((F1 (.od (oldB B))).map .d)),(3,.cells T ((F3 (.od (oldB B))).map .d))] b:=fun b hb=>⟨hb.1,fun id o m ho hgi=>by
   simp only[look] at ho
   split at ho
   ·rename_i e;subst e;exact hb.2 1 _ m l1 hgi
   ·split at ho
    ·rename_i e;subst e;exact hb.2 3 _ m l3 hgi
    ·cases ho⟩
  have hold:∀ y u,DRd w (Free ctx g s.objs) (.od (oldB B) y) u → DRd w' (Free ctx g [(1,.cells T ((F1 (.od (oldB B))).map .d)),(3,.cells T ((F3 (.od (oldB B))).map .d))]) (.od (oldB B) y) u:=fun y u hd=>by
   cases hd with
   | od _ _ _ h0=>exact .od _ y u (h0.keep hst fun b hb _=>⟨hfr b hb.1,hb.2⟩)
  refine⟨g,⟨h2.defers,h2.size,fun i p hp=>?_,fun id o ho=>?_,fun i j oi oj b m k hi hj hgi hgj=>?_,fun id o b m ho hgi=>?_,h2.os.trans hg.os,h2.tape.trans hg.tape,h2.output.trans hg.output,Nat.le_trans hg.grows h2.grows,fun k hk hnk=>?_⟩⟩
  ·have hp':=at_get hp;have hlt:=at_lt hp;simp only[getS_cons] at hp'
   split at hp'
   ·rename_i e;subst e;cases hp'
    have:=h2.slots 1 (.d (.v (.pointer (some ⟨b1,0,none⟩)))) (at_of hlt rfl);rw[this.of_v];exact .ref 1 0 b1 n1 g1
   ·split at hp'
    ·rename_i e;subst e;cases hp'
     have:=h2.slots 3 (.d (.v (.pointer (some ⟨b3,0,none⟩)))) (at_of hlt rfl);rw[this.of_v];exact .ref 3 0 b3 n3 g3
    ·simp[getS] at hp'
  ·simp only[look] at ho
   split at ho
   ·rename_i e;subst e;cases ho
    exact hF1.obj (hg.objs 1 _ l1) g1 g1 (h2.keep b1 own1.1 hK1) hold
   ·split at ho
    ·rename_i e;subst e;cases ho
     exact hF3.obj (hg.objs 3 _ l3) g3 g3 (h2.keep b3 own3.1 hK3) hold
    ·cases ho
  ·have hl:∀ {i:Nat} {o:Ob},look [(1,.cells T ((F1 (.od (oldB B))).map .d)),(3,.cells T ((F3 (.od (oldB B))).map .d))] i=some o → ∃ o',look s.objs i=some o':=fun {i o} h=>by
    simp only[look] at h
    split at h
    ·rename_i e;subst e;exact⟨_,l1⟩
    ·split at h
     ·rename_i e;subst e;exact⟨_,l3⟩
     ·cases h
   obtain⟨o1,e1⟩:=hl hi;obtain⟨o2,e2⟩:=hl hj;exact hg.inj i j o1 o2 b m k e1 e2 hgi hgj
  ·simp only[look] at ho
   split at ho
   ·rename_i e;subst e;have:=hg.own 1 _ b m l1 hgi;exact⟨Nat.lt_of_lt_of_le this.1 h2.grows,this.2⟩
   ·split at ho
    ·rename_i e;subst e;have:=hg.own 3 _ b m l3 hgi;exact⟨Nat.lt_of_lt_of_le this.1 h2.grows,this.2⟩
    ·cases ho
  ·have h3:=h2.keep k (Nat.lt_of_lt_of_le hk hg.grows) fun h=>by
    rcases h with h | h
    ·have:ctx.w0.heap.size ≤ k:=h.2.2;omega
    ·subst h;rcases own4.2 with h4 | h4
     ·omega
     ·exact hnk h4
   exact h3.trans (hg.keep k hk hnk)
end Go.Ep
namespace Go.Ep
open Go.RowKit
theorem DRd0.lower{w:World}{z:Bool}{S:Nat → Prop}{x:DV}{u:Value}(h:DRd0 w z S x u):DRd0 w false S x u:=by
 induction h with
 | v x h=>exact .v x h
 | nil a cap hc hn=>exact .nil a cap hc hn
 | sl l b off cap k c hl hcap hs hb hz hkk hc hr ih=>exact .sl l b off cap k c hl hcap hs hb (fun h=>by cases h) hkk hc ih
theorem old_of_nw{w:World}{S N:Nat → Prop}{y:DV}{u:Value}(h:DRd w S (.nw N y) u):DRd w S (.od (oldB w.heap.size) y) u:=by
 cases h with
 | nw _ _ _ h0=>exact .od _ _ _ (h0.lower.bound.mono fun b hb=>⟨hb.1.1,hb.2⟩)
theorem old_of{w:World}{S:Nat → Prop}{y:DV}(hp:Plain y){u:Value}(h:DRd w S y u):DRd w S (.od (oldB w.heap.size) y) u:=
 .od _ _ _ ((hp w S u h).bound.mono fun b hb=>⟨hb.1,hb.2⟩)
theorem DRd.unod{w:World}{S N:Nat → Prop}{x:DV}{u:Value}(h:DRd w S (.od N x) u):DRd w S x u:=by
 cases h with
 | od _ _ _ h=>exact(h.mono fun _ hb=>hb.1).up
theorem FL.agg{F:(DV → DV) → List DV}(hF:FL F){w w':World}{g g':Ghost}{S S':Nat → Prop}{f f':DV → DV}{v:Value}(h:Rd w g S (.agg ((F f).map .d)) v)(hf:∀ y u,y∈F (fun x=>x) → DRd w S (f y) u → DRd w' S' (f' y) u):Rd w' g' S' (.agg ((F f').map .d)) v:=by
 cases h with
 | agg _ us hl hh h1=>
  refine .agg _ us (by rw[← hl];simp[hF.get.1 f' f]) (fun i p u hp hu=>?_) h1;rw[List.getElem?_map] at hp;rcases hF.get.2 i with h | ⟨x,h⟩ | ⟨y,h⟩
  ·rw[h] at hp;cases hp
  ·rw[h] at hp;cases hp;have:=hh i (.d (.v x)) u (by rw[List.getElem?_map,h];rfl) hu
   cases this with
   | d hd=>cases hd with | v _ h6=>exact .d (.v _ h6)
  ·rw[h] at hp;cases hp;have:=hh i (.d (f y)) u (by rw[List.getElem?_map,h];rfl) hu
   cases this with
   | d hd=>exact .d (hf y u (List.mem_of_getElem? (h (fun x=>x))) hd)
theorem FL.obj'{F:(DV → DV) → List DV}(hF:FL F){w w':World}{g g':Ghost}{S S':Nat → Prop}{id blk n:Nat}{T:TypeId}{f f':DV → DV}(h:ObRd w g S id (.cells T ((F f).map .d)))(hg:g id=some (blk,n))(hg':g' id=some (blk,n))(hh:w'.heap[blk]?=w.heap[blk]?)
  (hf:∀ y u,y∈F (fun x=>x) → DRd w S (f y) u → DRd w' S' (f' y) u):ObRd w' g' S' id (.cells T ((F f').map .d)):=by
 cases h with
 | cells _ _ blk' n' us h1 h2 h3 h4 h5=>
  rw[hg] at h1
  cases h1
  refine .cells T _ blk n us hg' (by rw[hh];exact h2) (by rw[← h3];simp[hF.get.1 f' f]) (fun i p u hp hu=>?_) h5;rw[List.getElem?_map] at hp;rcases hF.get.2 i with h | ⟨x,h⟩ | ⟨y,h⟩
  ·rw[h] at hp;cases hp
  ·rw[h] at hp;cases hp;have:=h4 i (.d (.v x)) u (by rw[List.getElem?_map,h];rfl) hu
   cases this with
   | d hd=>cases hd with | v _ h6=>exact .d (.v _ h6)
  ·rw[h] at hp;cases hp;have:=h4 i (.d (f y)) u (by rw[List.getElem?_map,h];rfl) hu
   cases this with
   | d hd=>exact .d (hf y u (List.mem_of_getElem? (h (fun x=>x))) hd)
section
variable{P:Program}{ctx:Ctx}
theorem free_putO{g:Ghost}{objs:List (Nat×Ob)}{id:Nat}{o o':Ob}(h:look objs id=some o){b:Nat}:Free ctx g (putO id o' objs) b↔Free ctx g objs b:=by
 have key:∀ j,(∃ q,look (putO id o' objs) j=some q)↔∃ q,look objs j=some q:=fun j=>by
  rw[look_putO]
  by_cases e:j=id
  ·subst e;rw[if_pos rfl,h];simp
  ·rw[if_neg e]
 unfold Free
 constructor
 ·rintro⟨h1,h2⟩;exact⟨h1,fun j q m hq hg=>let ⟨q',hq'⟩:=(key j).2 ⟨q,hq⟩;h2 j q' m hq' hg⟩
 ·rintro⟨h1,h2⟩;exact⟨h1,fun j q m hq hg=>let ⟨q',hq'⟩:=(key j).1 ⟨q,hq⟩;h2 j q' m hq' hg⟩
theorem remark{s:PState}{a:Act}{w:World}{T:TypeId}{F1 F2:(DV → DV) → List DV}{N:Nat → Prop}{t id:Nat}(hF1:FL F1)(hF2:FL F2)(hp:∀ y∈F1 (fun x=>x),Plain y)(hr:Rel ctx s a w)
  (ho:look s.objs id=some (.cells T ((F1 fun x=>x).map .d))) (ht:s.at t=some (.agg ((F2 (.nw N)).map .d))) :
  Rel ctx (s.app ⟨[(t,.agg ((F2 (.od (oldB w.heap.size))).map .d))],[(id,.cells T ((F1 (.od (oldB w.heap.size))).map .d))]⟩) a w:=by
 obtain⟨g,hg⟩:=hr;have hlk:∀ {j:Nat} {o:Ob},look (putO id (.cells T ((F1 (.od (oldB w.heap.size))).map .d)) s.objs) j=some o → (j=id ∧ o=.cells T ((F1 (.od (oldB w.heap.size))).map .d)) ∨ (j≠id ∧ look s.objs j=some o):=fun {j o} h=>by
  rw[look_putO] at h
  by_cases e:j=id
  ·rw[if_pos e] at h;exact .inl ⟨e,by simpa using h.symm⟩
  ·rw[if_neg e] at h;exact .inr ⟨e,h⟩
 have hex:∀ {j:Nat} {o:Ob},look (putO id (.cells T ((F1 (.od (oldB w.heap.size))).map .d)) s.objs) j=some o → ∃ o',look s.objs j=some o':=fun {j o} h=>by
  rcases hlk h with⟨rfl,_⟩ | ⟨_,h⟩
  ·exact⟨_,ho⟩
  ·exact⟨_,h⟩
 have hS:∀ b,Free ctx g s.objs b → Free ctx g (putO id (.cells T ((F1 (.od (oldB w.heap.size))).map .d)) s.objs) b:=fun b hb=>(free_putO ho).2 hb
 have hst:Stays w w (Free ctx g s.objs):=⟨Nat.le_refl _,fun _ _ _=>rfl⟩
 refine⟨g,⟨hg.defers,hg.size,fun i p hp'=>?_,fun j o hj=>?_,fun i j oi oj b n m hi hj hgi hgj=>?_,fun j o b n hj hgj=>?_,hg.os,hg.tape,hg.output,hg.grows,hg.keep⟩⟩
 ·have h1:=at_get hp';have h2:=at_lt hp'
  change getS ((t,_)::s.sl) i=some p at h1
  rw[getS_cons] at h1
  by_cases e:t=i
  ·subst e;rw[if_pos rfl] at h1
   cases h1
   refine hF2.agg (hg.slots t _ ht) fun y u _ hd=>?_
   exact(old_of_nw hd).keep hst fun b hb _=>hS b hb
  ·rw[if_neg e] at h1;exact(hg.slots i p (at_of h2 h1)).keep hst (fun b hb _=>hS b hb) (fun _ _=>rfl)
 ·rcases hlk hj with⟨rfl,rfl⟩ | ⟨_,hj⟩
  ·obtain⟨blk,n,hgi⟩:=cells_g (hg.objs j _ ho);refine hF1.obj' (hg.objs j _ ho) hgi hgi rfl fun y u hy hd=>?_
   exact(old_of (hp y hy) hd).keep hst fun b hb _=>hS b hb
  ·exact(hg.objs j o hj).keep hst (fun b hb _=>hS b hb) (fun _ _ _=>rfl) rfl (fun _ _=>rfl)
 ·obtain⟨o1,e1⟩:=hex hi;obtain⟨o2,e2⟩:=hex hj;exact hg.inj i j o1 o2 b n m e1 e2 hgi hgj
 ·obtain⟨o1,e1⟩:=hex hj;exact hg.own j o1 b n e1 hgj
theorem unmarkO{s:PState}{T:TypeId}{F:(DV → DV) → List DV}{N:Nat → Prop}{id:Nat}(hF:FL F)(ho:look s.objs id=some (.cells T ((F (.od N)).map .d))):Sub ctx s ⟨s.n,s.sl,putO id (.cells T ((F fun x=>x).map .d)) s.objs⟩:=by
 rintro a w ⟨g,hg⟩;have hlk:∀ {j:Nat} {o:Ob},look (putO id (.cells T ((F fun x=>x).map .d)) s.objs) j=some o → (j=id ∧ o=.cells T ((F fun x=>x).map .d)) ∨ (j≠id ∧ look s.objs j=some o):=fun {j o} h=>by
  rw[look_putO] at h
  by_cases e:j=id
  ·rw[if_pos e] at h;exact .inl ⟨e,by simpa using h.symm⟩
  ·rw[if_neg e] at h;exact .inr ⟨e,h⟩
 have hex:∀ {j:Nat} {o:Ob},look (putO id (.cells T ((F fun x=>x).map .d)) s.objs) j=some o → ∃ o',look s.objs j=some o':=fun {j o} h=>by
  rcases hlk h with⟨rfl,_⟩ | ⟨_,h⟩
  ·exact⟨_,ho⟩
  ·exact⟨_,h⟩
 have hS:∀ b,Free ctx g s.objs b → Free ctx g (putO id (.cells T ((F fun x=>x).map .d)) s.objs) b:=fun b hb=>(free_putO ho).2 hb
 have hst:Stays w w (Free ctx g s.objs):=⟨Nat.le_refl _,fun _ _ _=>rfl⟩
 refine⟨g,⟨hg.defers,hg.size,fun i p hp=>(hg.slots i p hp).keep hst (fun b hb _=>hS b hb) (fun _ _=>rfl),fun j o hj=>?_,fun i j oi oj b n m hi hj hgi hgj=>?_,fun j o b n hj hgj=>?_,hg.os,hg.tape,hg.output,hg.grows,hg.keep⟩⟩
 ·rcases hlk hj with⟨rfl,rfl⟩ | ⟨_,hj⟩
  ·obtain⟨blk,n,hgi⟩:=cells_g (hg.objs j _ ho);exact hF.obj' (hg.objs j _ ho) hgi hgi rfl fun y u _ hd=>(hd.unod).keep hst fun b hb _=>hS b hb
  ·exact(hg.objs j o hj).keep hst (fun b hb _=>hS b hb) (fun _ _ _=>rfl) rfl (fun _ _=>rfl)
 ·obtain⟨o1,e1⟩:=hex hi;obtain⟨o2,e2⟩:=hex hj;exact hg.inj i j o1 o2 b n m e1 e2 hgi hgj
 ·obtain⟨o1,e1⟩:=hex hj;exact hg.own j o1 b n e1 hgj
theorem callAtW{s:PState}{dst:Option Tmp}{ty:TypeId}{pos:String}{after:Array Edge}{gd:Option (Nat×Bool)}{x:Operand}{xs:List Operand}{ats:Array TypeId}{f:FuncId}{ps:List PV}{r:PV}{a:Act}{w:World}(hr:Rel ctx s a w)
  (hc:∀ g,RelG ctx g s a w → FunAt P f ps r w (Free ctx g s.objs)) (hx:s.ev x=some (.d (.v (.func (.func f) #[] #[])))) (he:∀ args w,(callFunc f args).run P w=.ok (.enter f args) w)
  (hps:s.evs xs=some ps) (hd:PV.isData.isDataL ps=true) (hrd:r.isData=true) {K:Act → World → Prop} {Qx:Exit → Act → World → Prop} (hK:∀ a' w',Rel ctx (s.putD dst r) a' w' → K a' w') :
  (⟨dst,.call ⟨.value x,xs.toArray,ats⟩,ty,pos,after,gd⟩:Oper).wp P a w K Qx:=by
 obtain⟨g,hg⟩:=hr;obtain⟨hlen,hreal⟩:=evs_real hps hd hg;unfold Oper.wp;rw[exec_call (o:=⟨dst,.call ⟨.value x,xs.toArray,ats⟩,ty,pos,after,gd⟩) rfl (ev_v hg hx) he w,List.map_toArray];refine(hc g hg _ hlen hreal).mono fun e w' ⟨u,he,hb,hru⟩=>?_
 subst he;exact hK _ _ ⟨g,(hg.below hb).put dst ((hru.data hrd g).keep ⟨Nat.le_refl _,fun _ _ _=>rfl⟩ (fun b hb' _=>free_new hg hb') (fun _ _=>rfl))⟩
end
end Go.Ep
namespace Go.Ep
structure TRun where
 lo:Int
 hi:Int
 deriving DecidableEq
structure TPart where
 dev:Int
 runs:List TRun
 deriving DecidableEq
structure TDot where
 dev:Int
 n:Int
 deriving DecidableEq
structure TEvent where
 dot:TDot
 kind:Int
 cid:Int
 field:Int
 text:ByteArray
 kills:List TDot
 deriving DecidableEq
structure TDelta where
 from_:List TPart
 to_:List TPart
 events:List TEvent
 deriving DecidableEq
structure TMsg where
 kind:Int
 slot:Int
 try_:Int
 dev:Int
 epoch:Int
 why:Int
 have_:List TPart
 front:List TPart
 delta:TDelta
 deriving DecidableEq
end Go.Ep
namespace Go.Ep
def TRun.e(x:TRun):List DV:=[.v (.int .u64 x.lo),.v (.int .u64 x.hi)]
def TRun.v(x:TRun):List Value:=[(.int .u64 x.lo),(.int .u64 x.hi)]
theorem TRun.v1(x:TRun):∀ u∈x.v,u.oneCell'=true:=by
 intro u hu;simp only[TRun.v,List.mem_cons,List.not_mem_nil,or_false] at hu;rcases hu with rfl | rfl <;> rfl
def TRun.k(x:TRun):List Int:=[x.lo,x.hi]
def TPart.e(x:TPart):List DV:=[.v (.int .u16 x.dev),.sl (List.map TRun.e x.runs)]
def TDot.e(x:TDot):List DV:=[.v (.int .u16 x.dev),.v (.int .u64 x.n)]
def TDot.v(x:TDot):List Value:=[(.int .u16 x.dev),(.int .u64 x.n)]
theorem TDot.v1(x:TDot):∀ u∈x.v,u.oneCell'=true:=by
 intro u hu;simp only[TDot.v,List.mem_cons,List.not_mem_nil,or_false] at hu;rcases hu with rfl | rfl <;> rfl
def TDot.k(x:TDot):List Int:=[x.dev,x.n]
def TEvent.e(x:TEvent):List DV:=[.v (.int .u16 x.dot.dev),.v (.int .u64 x.dot.n),.v (.int .u8 x.kind),.v (.int .u64 x.cid),.v (.int .u8 x.field),.v (.string x.text),.sl (List.map TDot.e x.kills)]
def TDelta.e(x:TDelta):List DV:=[.sl (List.map TPart.e x.from_),.sl (List.map TPart.e x.to_),.sl (List.map TEvent.e x.events)]
def TMsg.e(x:TMsg):List DV:=[.v (.int .u8 x.kind),.v (.int .u8 x.slot),.v (.int .u64 x.try_),.v (.int .u16 x.dev),.v (.int .u64 x.epoch),.v (.int .u8 x.why),.sl (List.map TPart.e x.have_),.sl (List.map TPart.e x.front),.sl (List.map TPart.e x.delta.from_),.sl (List.map TPart.e x.delta.to_),.sl (List.map TEvent.e x.delta.events)]
end Go.Ep
namespace Go.Proofs
open Go.Ep
set_option linter.unusedSimpArgs false
theorem foldl_set(l:List (Value×Nat))(off:Nat):∀ cells:Array Value,(l.foldl (fun cs (p:Value×Nat)=>cs.setIfInBounds (off+p.2) p.1) cells).size=cells.size:=by
 induction l with
 | nil=>intro _;rfl
 | cons x r ih=>intro cells;rw[List.foldl_cons,ih];simp
theorem fill_arr{size n:Nat}{places:List (Nat×Nat)}(hs:0 < size)(hp:places=(List.range n).map fun i=>(i*size,size)):∀ (parts:List (Nat×Value)) (cells:Array Value),cells.size=n*size → Instr.fill (fun i=>some (i*size,size)) cells parts=Instr.fill (fun i=>places.toArray[i]?) cells parts
 | [],_,_=>rfl
 | (i,v)::r,cells,hc=>by
  have hi:places.toArray[i]?=if i < n then some (i*size,size) else none:=by
   subst hp
   by_cases h:i < n
   ·simp[h]
   ·simp[h]
  unfold Instr.fill;rw[hi]
  by_cases h:i < n
  ·rw[if_pos h];dsimp only
   split
   ·rfl
   ·exact fill_arr hs hp r _ (by rw[← hc,← Array.foldl_toList];exact foldl_set _ _ _)
  ·rw[if_neg h];dsimp only;have:n*size ≤ i*size:=Nat.mul_le_mul_right _ (by omega);rw[if_pos];rw[hc]
   by_cases h2:v.cells.size=size
   ·simp[h2];omega
   ·simp[h2]
theorem elem25 : ElemOK Tryz.prog 25 37 2 32:=ElemOK.mk' (z:=.agg #[.int .u16 0,.slice none 0 0]) Tryz.underlying25 (by kernel_rfl) rfl
theorem elem26 : ElemOK Tryz.prog 26 44 7 80:=ElemOK.mk' (z:=.agg #[.int .u16 0,.int .u64 0,.int .u8 0,.int .u64 0,.int .u8 0,.string ⟨#[]⟩,.slice none 0 0]) Tryz.underlying26 (by kernel_rfl) rfl
theorem elem35 : ElemOK Tryz.prog 35 39 2 16:=ElemOK.mk' (z:=.agg #[.int .u64 0,.int .u64 0]) Tryz.underlying35 (by kernel_rfl) rfl
theorem elem42 : ElemOK Tryz.prog 42 41 2 16:=ElemOK.mk' (z:=.agg #[.int .u16 0,.int .u64 0]) Tryz.underlying42 (by kernel_rfl) rfl
theorem elem116 : ElemOK Tryz.prog 116 22 1 8:=ElemOK.mk' (z:=.int .u64 0) Tryz.underlying116 (by kernel_rfl) rfl
theorem build28 : BuildOK Tryz.prog 28 [(0,1),(1,1),(2,1)] [.slice none 0 0,.slice none 0 0,.slice none 0 0]:=fun parts=>by kernel_rfl
theorem build30 : BuildOK Tryz.prog 30 [(0,1),(1,1),(2,1),(3,1),(4,1),(5,1),(6,1),(7,1),(8,3)] [.int .u8 0,.int .u8 0,.int .u64 0,.int .u16 0,.int .u64 0,.int .u8 0,.slice none 0 0,.slice none 0 0,.slice none 0 0,.slice none 0 0,.slice none 0 0]:=fun parts=>by kernel_rfl
theorem build37 : BuildOK Tryz.prog 37 [(0,1),(1,1)] [.int .u16 0,.slice none 0 0]:=fun parts=>by kernel_rfl
theorem build39 : BuildOK Tryz.prog 39 [(0,1),(1,1)] [.int .u64 0,.int .u64 0]:=fun parts=>by kernel_rfl
theorem build41 : BuildOK Tryz.prog 41 [(0,1),(1,1)] [.int .u16 0,.int .u64 0]:=fun parts=>by kernel_rfl
theorem build53 : BuildOK Tryz.prog 53 [(0,1),(1,1),(2,1),(3,1),(4,1),(5,1)] [.int .u64 0,.int .u64 0,.int .u64 0,.int .u64 0,.int .u64 0,.int .u64 0]:=fun parts=>(by kernel_rfl:Tryz.prog.built 53 parts=Instr.fill (fun i=>some (i*1,1)) ([.int .u64 0,.int .u64 0,.int .u64 0,.int .u64 0,.int .u64 0,.int .u64 0]:List Value).toArray parts).trans (fill_arr (n:=6) (by decide) (by decide) parts _ (by decide))
theorem eq39{a0 b0:Int}{a1 b1:Int}:AggEq Tryz.prog 39 [.int .u64 a0,.int .u64 a1] [.int .u64 b0,.int .u64 b1] ((decide (a0=b0)&&decide (a1=b1))):=by
 refine⟨by kernel_rfl,fun w=>?_⟩;have hu:Tryz.prog.underlying 39=some (.struct (Tryz.prog.fieldsOf 39)):=by simp only[Program.fieldsOf,Tryz.underlying39]
 rw[run_equalIn_agg w 9999 39 _ _ hu (by kernel_rfl)];simp[Program.fieldsOf,Tryz.underlying39,Op.eqFields,part,Tryz.isAgg22,run_equalIn_int _ 9998 22 _ _ _ _ Tryz.underlying22,Result.andThen,beq_bytes]
 all_goals (repeat' split) <;> simp_all
theorem eq41{a0 b0:Int}{a1 b1:Int}:AggEq Tryz.prog 41 [.int .u16 a0,.int .u64 a1] [.int .u16 b0,.int .u64 b1] ((decide (a0=b0)&&decide (a1=b1))):=by
 refine⟨by kernel_rfl,fun w=>?_⟩;have hu:Tryz.prog.underlying 41=some (.struct (Tryz.prog.fieldsOf 41)):=by simp only[Program.fieldsOf,Tryz.underlying41]
 rw[run_equalIn_agg w 9999 41 _ _ hu (by kernel_rfl)];simp[Program.fieldsOf,Tryz.underlying41,Op.eqFields,part,Tryz.isAgg22,Tryz.isAgg23,run_equalIn_int _ 9998 22 _ _ _ _ Tryz.underlying22,run_equalIn_int _ 9998 23 _ _ _ _ Tryz.underlying23,Result.andThen,beq_bytes]
 all_goals (repeat' split) <;> simp_all
theorem eq53{a0 b0:Int}{a1 b1:Int}{a2 b2:Int}{a3 b3:Int}{a4 b4:Int}{a5 b5:Int}:AggEq Tryz.prog 53 [.int .u64 a0,.int .u64 a1,.int .u64 a2,.int .u64 a3,.int .u64 a4,.int .u64 a5] [.int .u64 b0,.int .u64 b1,.int .u64 b2,.int .u64 b3,.int .u64 b4,.int .u64 b5] ((decide (a0=b0)&&(decide (a1=b1)&&(decide (a2=b2)&&(decide (a3=b3)&&(decide (a4=b4)&&decide (a5=b5))))))):=by
 refine⟨by kernel_rfl,fun w=>?_⟩;obtain⟨i,hi⟩:=Option.isSome_iff_exists.1 (by kernel_rfl:(Tryz.prog.info? 22).isSome=true);have hc:Tryz.prog.cellsOf 22=1:=by kernel_rfl
 rw[run_equalIn_array w 9999 _ _ Tryz.underlying53 hi,hc,show List.range 6=[0,1,2,3,4,5] from rfl];simp[Op.eqItems,part,Tryz.isAgg22,run_equalIn_int _ 9998 22 _ _ _ _ Tryz.underlying22,Result.andThen,beq_bytes]
 all_goals (repeat' split) <;> simp_all
theorem key80 : KeyOK Tryz.prog 23 [.u16]:=KeyOK.int Tryz.underlying23
end Go.Proofs
namespace Go.Ep
def ltDot(x y:TDot):Bool:=decide (x.dev < y.dev)||(decide (x.dev=y.dev)&&decide (x.n < y.n))
def ltRun(x y:TRun):Bool:=decide (x.lo < y.lo)
def ltPart(x y:TPart):Bool:=decide (x.dev < y.dev)
end Go.Ep
namespace Go.Ep
open Go
def r09_Few_l0(c1:List TPart):Int → M (M.Step Int (M.Ex Unit Bool)):=fun i12=>
 cond ((decide (i12 < (List.length c1:Int))))
  (M.bind (M.idx c1 i12) fun x14=>
  cond ((decide (30 < (List.length x14.runs:Int))))
   (M.pure (.done (.ret false)))
   (M.pure (.next (IntKind.i64.wrap (i12+1)))))
  (M.pure (.done (.brk ())))
def r09_Few(c1:List TPart):M Bool:=
 cond ((decide (30 < (List.length c1:Int))))
  (M.pure false)
  (M.bind (M.loop (r09_Few_l0 c1) 0) (M.exk (fun _=>
  M.pure true)))
def r13_Few_l0(l1:List TEvent):Int → M (M.Step Int (M.Ex Unit Bool)):=fun i21=>
 cond ((decide (i21 < (List.length l1:Int))))
  (M.bind (M.bind (M.idx l1 i21) fun x24=>
  cond ((decide (300 < (List.length x24.kills:Int))))
   (M.pure true)
   (M.bind (M.idx l1 i21) fun x27=>
   M.pure ((decide (200 < (ByteArray.size x27.text:Int)))))) (fun v23=>
  cond v23
   (M.pure (.done (.ret false)))
   (M.pure (.next (IntKind.i64.wrap (i21+1))))))
  (M.pure (.done (.brk ())))
def r13_Few(l1:List TEvent)(most2:Int):M Bool:=
 cond ((decide (most2 < (List.length l1:Int))))
  (M.pure false)
  (M.bind (M.loop (r13_Few_l0 l1) 0) (M.exk (fun _=>
  M.pure true)))
def r20_Few(d1:TDelta):M Bool:=
 M.bind (M.bind (M.det (r09_Few d1.from_)) fun v3=>
 cond v3
  (M.bind (M.det (r09_Few d1.to_)) fun v6=>
  cond v6
   (M.bind (M.det (r13_Few d1.events 30)) fun v9=>
   M.pure v9)
   (M.pure false))
  (M.pure false)) (fun v2=>
 M.pure v2)
def r27_Few(m1:TMsg):M Bool:=
 M.bind (M.bind (M.det (r09_Few m1.have_)) fun v3=>
 cond v3
  (M.bind (M.det (r09_Few m1.front)) fun v6=>
  cond v6
   (M.bind (M.det (r20_Few m1.delta)) fun v9=>
   M.pure v9)
   (M.pure false))
  (M.pure false)) (fun v2=>
 M.pure v2)
def msg_number(n1:Int):M Bool:=
 M.bind (cond (decide (0 < n1))
  (M.pure (decide (n1 ≤ 281474976710655)))
  (M.pure false)) (fun v2=>
 M.pure v2)
def slices_Equal_sl_Run_Run_l0(s1_1:List TRun)(s2_2:List TRun):Int → M (M.Step Int (M.Ex Unit Bool)):=fun v17=>
 cond ((decide (v17 < (List.length s1_1:Int))))
  (M.bind (M.idx s1_1 v17) fun x19=>
  M.bind (M.idx s2_2 v17) fun x21=>
  cond ((!(decide (x19.lo=x21.lo)&&decide (x19.hi=x21.hi))))
   (M.pure (.done (.ret false)))
   (M.pure (.next (IntKind.i64.wrap (v17+1)))))
  (M.pure (.done (.brk ())))
def slices_Equal_sl_Run_Run(s1_1:List TRun)(s2_2:List TRun):M Bool:=
 cond ((!decide ((List.length s1_1:Int)=(List.length s2_2:Int))))
  (M.pure false)
  (M.bind (M.loop (slices_Equal_sl_Run_Run_l0 s1_1 s2_2) 0) (M.exk (fun _=>
  M.pure true)))
def ctx_eq_c1(x1:TPart)(y2:TPart):M Bool:=
 M.bind (cond (decide (x1.dev=y2.dev))
  (M.bind (M.det (slices_Equal_sl_Run_Run x1.runs y2.runs)) fun v5=>
  M.pure v5)
  (M.pure false)) (fun v3=>
 M.pure v3)
def slices_EqualFunc_Ctx_Ctx_Part_Part_ctx_eq_c1_l0(s1_1:List TPart)(s2_2:List TPart):Int → M (M.Step Int (M.Ex Unit Bool)):=fun v21=>
 cond ((decide (v21 < (List.length s1_1:Int))))
  (M.bind (M.idx s1_1 v21) fun x23=>
  M.bind (M.idx s2_2 v21) fun x25=>
  M.bind (M.det (ctx_eq_c1 x23 x25)) fun v27=>
  cond (!v27)
   (M.pure (.done (.ret false)))
   (M.pure (.next (IntKind.i64.wrap (v21+1)))))
  (M.pure (.done (.brk ())))
def slices_EqualFunc_Ctx_Ctx_Part_Part_ctx_eq_c1(s1_1:List TPart)(s2_2:List TPart):M Bool:=
 cond ((!decide ((List.length s1_1:Int)=(List.length s2_2:Int))))
  (M.pure false)
  (M.bind (M.loop (slices_EqualFunc_Ctx_Ctx_Part_Part_ctx_eq_c1_l0 s1_1 s2_2) 0) (M.exk (fun _=>
  M.pure true)))
def ctx_eq(a1:List TPart)(b2:List TPart):M Bool:=
 M.bind (M.det (slices_EqualFunc_Ctx_Ctx_Part_Part_ctx_eq_c1 a1 b2)) fun v3=>
 M.pure v3
def cmp_isNaN_uint64(x1:Int):M Bool:=
 M.pure (!decide (x1=x1))
def cmp_Compare_uint64(x1:Int)(y2:Int):M Int:=
 M.bind (M.det (cmp_isNaN_uint64 x1)) fun v3=>
 M.bind (M.det (cmp_isNaN_uint64 y2)) fun v5=>
 cond v3
  (cond v5
   (M.pure 0)
   (M.pure (-1)))
  (cond v5
   (M.pure 1)
   (cond (decide (x1 < y2))
    (M.pure (-1))
    (cond (decide (y2 < x1))
     (M.pure 1)
     (M.pure 0))))
def runs_Norm_l0(l1:List TRun):Int×List TRun → M (M.Step (Int×List TRun) (List TRun)):=fun⟨v23,some24⟩=>
 cond ((decide (v23 < (List.length l1:Int))))
  (M.bind (M.bind (M.idx l1 v23) fun x27=>
  M.bind (cond (decide (0 < x27.lo))
   (cond (decide (x27.lo ≤ x27.hi))
    (M.pure (decide (x27.hi ≤ 281474976710655)))
    (M.pure false))
   (M.pure false)) (fun v29=>
  cond v29
   (M.need ((List.length some24+List.length ([x27]))*16 ≤ 140737488355328) <|
   M.pure (some24++[x27]))
   (M.pure some24))) (fun some26=>
  M.pure (.next (((IntKind.i64.wrap (v23+1)),some26)))))
  (M.pure (.done some24))
def runs_Norm_l1(some2:List TRun)(s34:List TRun):Int×List TRun → M (M.Step (Int×List TRun) (List TRun)):=fun⟨v69,out70⟩=>
 cond ((decide (v69 < ((List.length some2):Int))))
  (M.bind (M.bind (M.idx s34 v69) fun x73=>
  M.bind (cond ((decide (0 ≤ ((IntKind.i64.wrap (((List.length out70):Int) - 1))))))
   (M.bind (M.idx out70 ((IntKind.i64.wrap (((List.length out70):Int) - 1)))) fun x77=>
   M.pure ((decide (x73.lo ≤ (IntKind.u64.wrap (x77.hi+1))))))
   (M.pure false)) (fun v75=>
  cond v75
   (M.bind (M.idx out70 ((IntKind.i64.wrap (((List.length out70):Int) - 1)))) fun x80=>
   M.bind (M.idx out70 ((IntKind.i64.wrap (((List.length out70):Int) - 1)))) fun x82=>
   M.pure ((List.set out70 ((Int.toNat ((IntKind.i64.wrap (((List.length out70):Int) - 1))))) (⟨x82.lo,(max x80.hi x73.hi)⟩:TRun))))
   (M.need ((List.length out70+List.length ([x73]))*16 ≤ 140737488355328) <|
   M.pure (out70++[x73])))) (fun out72=>
  M.pure (.next (((IntKind.i64.wrap (v69+1)),out72)))))
  (M.pure (.done out70))
def runs_Norm(l1:List TRun):M (List TRun):=
 M.bind (M.loop (runs_Norm_l0 l1) (0,([]:List TRun))) (fun some2=>
 M.need (List.length some2 < 4611686018427387904)<|M.bind (M.srt ltRun some2) fun s34=>
 M.bind (M.loop (runs_Norm_l1 some2 s34) (0,([]:List TRun))) (fun out38=>
 M.pure out38))
def cmp_isNaN_uint16(x1:Int):M Bool:=
 M.pure (!decide (x1=x1))
def cmp_Compare_uint16(x1:Int)(y2:Int):M Int:=
 M.bind (M.det (cmp_isNaN_uint16 x1)) fun v3=>
 M.bind (M.det (cmp_isNaN_uint16 y2)) fun v5=>
 cond v3
  (cond v5
   (M.pure 0)
   (M.pure (-1)))
  (cond v5
   (M.pure 1)
   (cond (decide (x1 < y2))
    (M.pure (-1))
    (cond (decide (y2 < x1))
     (M.pure 1)
     (M.pure 0))))
def ctx_order_l0(m1:List (Int×List TRun)):List Nat×List TPart → M (M.Step (List Nat×List TPart) (List TPart)):=fun⟨seen28,c29⟩=>
 M.need (∀ i∈seen28,i < List.length m1)<|M.bind (M.nxt (List.length m1) seen28) fun o=>match o with
 | none=>
  M.pure (.done c29)
 | some j30=>
  M.bind (M.idx m1 (Int.ofNat j30)) fun kv34=>
  M.bind (M.det (runs_Norm kv34.2)) fun v36=>
  cond ((decide (0 < ((List.length v36):Int))))
   (M.need ((List.length c29+List.length ([(⟨kv34.1,v36⟩:TPart)]))*32 ≤ 140737488355328) <|
   M.pure (.next (((seen28++[j30]),(c29++[(⟨kv34.1,v36⟩:TPart)])))))
   (M.pure (.next ((seen28++[j30]),c29)))
def ctx_order(m1:List (Int×List TRun)):M (List TPart):=
 M.bind (M.loop (ctx_order_l0 m1) ([],([]:List TPart))) (fun c3=>
 M.need (List.length c3 < 4611686018427387904)<|M.bind (M.srt ltPart c3) fun s41=>
 M.pure s41)
def ctx_toldF(p:TPart):Option (Int×List TRun):=if 0 < p.dev then some (p.dev,p.runs) else none
def ctx_told(c1:List TPart):M (List (Int×List TRun)):=
 M.need (AL.growOK 16 (List.length c1) (List.filterMap ctx_toldF c1)) <|
 M.pure ((AL.grow ([]:List (Int×List TRun)) (List.filterMap ctx_toldF c1)))
def ctx_Norm(c1:List TPart):M (List TPart):=
 M.bind (M.det (ctx_told c1)) fun v2=>
 M.bind (M.det (ctx_order v2)) fun v5=>
 M.pure v5
def ctx_Good(c1:List TPart):M Bool:=
 M.bind (M.det (ctx_Norm c1)) fun v2=>
 M.bind (M.det (ctx_eq c1 v2)) fun v4=>
 M.pure v4
def runs_Meet_l0 :List TRun×List TRun×List TRun → M (M.Step (List TRun×List TRun×List TRun) (List TRun)):=fun⟨a53,b54,out55⟩=>
 M.bind (cond ((decide (0 < (List.length a53:Int))))
  (M.pure ((decide (0 < (List.length b54:Int)))))
  (M.pure false)) (fun v56=>
 cond v56
  (M.bind (M.idx a53 0) fun x59=>
  M.bind (M.idx b54 0) fun x61=>
  M.bind (M.idx a53 0) fun x63=>
  M.bind (M.idx b54 0) fun x65=>
  M.bind (cond ((decide ((max x59.lo x61.lo) ≤ (min x63.hi x65.hi))))
   (M.need ((List.length out55+List.length ([(⟨(max x59.lo x61.lo),(min x63.hi x65.hi)⟩:TRun)]))*16 ≤ 140737488355328) <|
   M.pure ((out55++[(⟨(max x59.lo x61.lo),(min x63.hi x65.hi)⟩:TRun)])))
   (M.pure out55)) (fun out67=>
  M.bind (M.idx a53 0) fun x70=>
  M.bind (M.idx b54 0) fun x72=>
  cond (decide (x70.hi < x72.hi))
   (M.need ((0:Int) ≤ 1 ∧ (1:Int) ≤ (List.length a53:Int) ∧ (List.length a53:Int) ≤ (List.length a53:Int)) <|
   M.pure (.next (((List.drop (Int.toNat 1) (List.take (Int.toNat (List.length a53:Int)) a53)),b54,out67))))
   (M.need ((0:Int) ≤ 1 ∧ (1:Int) ≤ (List.length b54:Int) ∧ (List.length b54:Int) ≤ (List.length b54:Int)) <|
   M.pure (.next ((a53,(List.drop (Int.toNat 1) (List.take (Int.toNat (List.length b54:Int)) b54)),out67))))))
  (M.pure (.done out55)))
def runs_Meet(a1:List TRun)(b2:List TRun):M (List TRun):=
 M.bind (M.det (runs_Norm a1)) fun v3=>
 M.bind (M.det (runs_Norm b2)) fun v5=>
 M.bind (M.loop runs_Meet_l0 (v3,v5,([]:List TRun))) (fun out7=>
 M.pure out7)
def runs_rest_l0(v2:List TRun):Int×Int×List TRun → M (M.Step (Int×Int×List TRun) (Int×List TRun)):=fun⟨at17,v18,out19⟩=>
 cond ((decide (v18 < ((List.length v2):Int))))
  (M.bind (M.idx v2 v18) fun x21=>
  M.need ((List.length out19+List.length ([(⟨at17,(IntKind.u64.wrap (x21.lo - 1))⟩:TRun)]))*16 ≤ 140737488355328) <|
  M.pure (.next (((IntKind.u64.wrap (x21.hi+1)),(IntKind.i64.wrap (v18+1)),(out19++[(⟨at17,(IntKind.u64.wrap (x21.lo - 1))⟩:TRun)])))))
  (M.pure (.done (at17,out19)))
def runs_rest(l1:List TRun):M (List TRun):=
 M.bind (M.det (runs_Norm l1)) fun v2=>
 M.bind (M.loop (runs_rest_l0 v2) (1,0,([]:List TRun))) (fun⟨at4,out5⟩=>
 M.need ((List.length out5+List.length ([(⟨at4,281474976710655⟩:TRun)]))*16 ≤ 140737488355328) <|
 M.pure (out5++[(⟨at4,281474976710655⟩:TRun)]))
def runs_Minus(a1:List TRun)(b2:List TRun):M (List TRun):=
 M.bind (M.det (runs_rest b2)) fun v3=>
 M.bind (M.det (runs_Meet a1 v3)) fun v5=>
 M.pure v5
def ctx_each_runs_Minus_l0(v6:List (Int×List TRun)):List Nat×(List (Int×List TRun)) → M (M.Step (List Nat×(List (Int×List TRun))) (List (Int×List TRun))):=fun⟨seen32,v33⟩=>
 M.need (∀ i∈seen32,i < List.length v33)<|M.bind (M.nxt (List.length v33) seen32) fun o=>match o with
 | none=>
  M.pure (.done v33)
 | some j34=>
  M.bind (M.idx v33 (Int.ofNat j34)) fun kv38=>
  M.bind (M.det (runs_Minus kv38.2 (AL.getZ v6 kv38.1 ([]:List TRun)))) fun v40=>
  M.need (AL.has v33 kv38.1=true) <|
  M.pure (.next ((seen32++[j34]),(AL.set v33 kv38.1 v40)))
def ctx_each_runs_Minus(a1:List TPart)(b2:List TPart):M (List TPart):=
 M.bind (M.det (ctx_told a1)) fun v3=>
 M.bind (M.det (ctx_told b2)) fun v6=>
 M.bind (M.loop (ctx_each_runs_Minus_l0 v6) ([],v3)) (fun v9=>
 M.bind (M.det (ctx_order v9)) fun v44=>
 M.pure v44)
def ctx_Minus(a1:List TPart)(b2:List TPart):M (List TPart):=
 M.bind (M.det (ctx_each_runs_Minus a1 b2)) fun v3=>
 M.pure v3
def ctx_Within(a1:List TPart)(b2:List TPart):M Bool:=
 M.bind (M.det (ctx_Minus a1 b2)) fun v3=>
 M.pure ((decide (((List.length v3):Int)=0)))
def dot_Good(d1:TDot):M Bool:=
 M.bind (cond (decide (0 < d1.dev))
  (cond (decide (0 < d1.n))
   (M.pure (decide (d1.n ≤ 281474976710655)))
   (M.pure false))
  (M.pure false)) (fun v2=>
 M.pure v2)
def shift_Split(v1:Int):M (Int×Int):=
 M.pure (((IntKind.u16.wrap (Int.fdiv v1 (2 ^ 48))),(bAnd .u64 v1 281474976710655)))
def dot_Unpack(v1:Int):M (TDot×Bool):=
 M.bind (M.det (shift_Split v1)) fun v2=>
 M.bind (M.det (dot_Good (⟨v2.1,v2.2⟩:TDot))) fun v4=>
 cond (!v4)
  (M.pure ((⟨0,0⟩:TDot),false))
  (M.pure ((⟨v2.1,v2.2⟩:TDot),true))
def field_Good(f1:Int):M Bool:=
 M.bind (cond (decide (1 ≤ f1))
  (M.pure (decide (f1 ≤ 5)))
  (M.pure false)) (fun v2=>
 M.pure v2)
def field_Text_l0(s1:ByteArray):Int → M (M.Step Int (M.Ex Unit Bool)):=fun v20=>
 cond ((decide (v20 < (ByteArray.size s1:Int))))
  (M.bind (M.bind (M.idx (bytesL s1) v20) fun b23=>
  cond (decide (b23 < 32))
   (M.pure true)
   (M.bind (M.idx (bytesL s1) v20) fun b26=>
   M.pure (decide (126 < b26)))) (fun v22=>
  cond v22
   (M.pure (.done (.ret false)))
   (M.pure (.next (IntKind.i64.wrap (v20+1))))))
  (M.pure (.done (.brk ())))
def field_Text(s1:ByteArray):M Bool:=
 cond ((decide (60 < (ByteArray.size s1:Int))))
  (M.pure false)
  (M.bind (M.loop (field_Text_l0 s1) 0) (M.exk (fun _=>
  M.pure true)))
def dot_Cmp(a1:TDot)(b2:TDot):M Int:=
 M.bind (M.det (cmp_Compare_uint16 a1.dev b2.dev)) fun v3=>
 cond (!decide (v3=0))
  (M.pure v3)
  (M.bind (M.det (cmp_Compare_uint64 a1.n b2.n)) fun v6=>
  M.pure v6)
def dot_Rising_l0(l1:List TDot):Int → M (M.Step Int (M.Ex Unit Bool)):=fun v23=>
 cond ((decide (v23 < (List.length l1:Int))))
  (M.bind (cond (decide (0 < v23))
   (M.bind (M.idx l1 (IntKind.i64.wrap (v23 - 1))) fun x27=>
   M.bind (M.idx l1 v23) fun x29=>
   M.bind (M.det (dot_Cmp x27 x29)) fun v31=>
   M.pure (decide (0 ≤ v31)))
   (M.pure false)) (fun v25=>
  cond v25
   (M.pure (.done (.ret false)))
   (M.pure (.next (IntKind.i64.wrap (v23+1))))))
  (M.pure (.done (.brk ())))
def dot_Rising(l1:List TDot):M Bool:=
 M.bind (M.loop (dot_Rising_l0 l1) 0) (M.exk (fun _=>
 M.pure true))
def event_Good_l0(e1:TEvent):Int → M (M.Step Int (M.Ex Unit Bool)):=fun v43=>
 cond ((decide (v43 < (List.length e1.kills:Int))))
  (M.bind (M.idx e1.kills v43) fun x45=>
  M.bind (M.bind (M.det (dot_Good x45)) fun v48=>
  cond (!v48)
   (M.pure true)
   (M.pure (((decide (x45.dev=e1.dot.dev)&&decide (x45.n=e1.dot.n)))))) (fun v47=>
  cond v47
   (M.pure (.done (.ret false)))
   (M.pure (.next (IntKind.i64.wrap (v43+1))))))
  (M.pure (.done (.brk ())))
def event_Good(e1:TEvent):M Bool:=
 M.bind (M.det (dot_Unpack e1.cid)) fun v2=>
 M.bind (cond (!v2.2)
  (M.pure true)
  (M.bind (M.det (dot_Good e1.dot)) fun v6=>
  M.pure (!v6))) (fun v4=>
 cond v4
  (M.pure false)
  (M.bind (cond (decide (e1.kind=1))
   (M.bind (M.bind (M.det (field_Good e1.field)) fun v11=>
   cond (!v11)
    (M.pure true)
    (M.bind (M.det (field_Text e1.text)) fun v14=>
    M.pure (!v14))) (fun v10=>
   cond v10
    (M.pure (.ret false))
    (M.pure (.brk ()))))
   (cond (decide (e1.kind=2))
    (M.bind (cond (!decide (e1.field=0))
     (M.pure true)
     (M.pure ((!decide (e1.text=(⟨#[]⟩:ByteArray)))))) (fun v18=>
    cond v18
     (M.pure (.ret false))
     (M.pure (.brk ()))))
    (M.pure (.ret false)))) (M.exk (fun _=>
  M.bind (cond ((decide (256 < (List.length e1.kills:Int))))
   (M.pure true)
   (M.bind (M.det (dot_Rising e1.kills)) fun v23=>
   M.pure (!v23))) (fun v21=>
  cond v21
   (M.pure false)
   (M.bind (M.loop (event_Good_l0 e1) 0) (M.exk (fun _=>
   M.pure true))))))))
def ctx_Runs(c1:List TPart)(dev2:Int):M (List TRun):=
 M.bind (M.det (ctx_told c1)) fun v3=>
 M.bind (M.det (runs_Norm (AL.getZ v3 dev2 ([]:List TRun)))) fun v6=>
 M.pure v6
def runs_Has_c1(x1:TRun)(n2:Int):M Int:=
 M.bind (M.det (cmp_Compare_uint64 x1.hi n2)) fun v3=>
 M.pure v3
def slices_BinarySearchFunc_sl_Run_Run_uint64_runs_Has_c1_l0(x1:List TRun)(target2:Int):Int×Int → M (M.Step (Int×Int) Int):=fun⟨i18,j19⟩=>
 cond (decide (i18 < j19))
  (M.bind (M.idx x1 ((IntKind.i64.wrap ((Int.fdiv ((IntKind.u64.wrap (IntKind.i64.wrap (i18+j19)))) (2 ^ 1)))))) fun x21=>
  M.bind (M.det (runs_Has_c1 x21 target2)) fun v23=>
  cond (decide (v23 < 0))
   (M.pure (.next (((IntKind.i64.wrap (((IntKind.i64.wrap ((Int.fdiv ((IntKind.u64.wrap (IntKind.i64.wrap (i18+j19)))) (2 ^ 1)))))+1)),j19))))
   (M.pure (.next ((i18,(IntKind.i64.wrap ((Int.fdiv ((IntKind.u64.wrap (IntKind.i64.wrap (i18+j19)))) (2 ^ 1)))))))))
  (M.pure (.done i18))
def slices_BinarySearchFunc_sl_Run_Run_uint64_runs_Has_c1(x1:List TRun)(target2:Int):M (Int×Bool):=
 M.bind (M.loop (slices_BinarySearchFunc_sl_Run_Run_uint64_runs_Has_c1_l0 x1 target2) (0,(List.length x1:Int))) (fun i3=>
 M.bind (cond ((decide (i3 < (List.length x1:Int))))
  (M.bind (M.idx x1 i3) fun x28=>
  M.bind (M.det (runs_Has_c1 x28 target2)) fun v30=>
  M.pure (decide (v30=0)))
  (M.pure false)) (fun v26=>
 M.pure (i3,v26)))
def runs_Has(l1:List TRun)(n2:Int):M Bool:=
 M.bind (M.det (runs_Norm l1)) fun v3=>
 M.bind (M.det (slices_BinarySearchFunc_sl_Run_Run_uint64_runs_Has_c1 v3 n2)) fun v5=>
 M.bind (cond ((decide (v5.1 < (List.length v3:Int))))
  (M.bind (M.idx v3 v5.1) fun x9=>
  M.pure (decide (x9.lo ≤ n2)))
  (M.pure false)) (fun v7=>
 M.pure v7)
def ctx_Has(c1:List TPart)(d2:TDot):M Bool:=
 M.bind (cond (decide (0 < d2.dev))
  (M.bind (M.det (ctx_Runs c1 d2.dev)) fun v5=>
  M.bind (M.det (runs_Has v5 d2.n)) fun v7=>
  M.pure v7)
  (M.pure false)) (fun v3=>
 M.pure v3)
def slices_Index_sl_Dot_Dot_l0(s1:List TDot)(v2:TDot):Int → M (M.Step Int (M.Ex Unit Int)):=fun v12=>
 cond ((decide (v12 < (List.length s1:Int))))
  (M.bind (M.idx s1 v12) fun x14=>
  cond (((decide (v2.dev=x14.dev)&&decide (v2.n=x14.n))))
   (M.pure (.done (.ret v12)))
   (M.pure (.next (IntKind.i64.wrap (v12+1)))))
  (M.pure (.done (.brk ())))
def slices_Index_sl_Dot_Dot(s1:List TDot)(v2:TDot):M Int:=
 M.bind (M.loop (slices_Index_sl_Dot_Dot_l0 s1 v2) 0) (M.exk (fun _=>
 M.pure (-1)))
def slices_Contains_sl_Dot_Dot(s1:List TDot)(v2:TDot):M Bool:=
 M.bind (M.det (slices_Index_sl_Dot_Dot s1 v2)) fun v3=>
 M.pure (decide (0 ≤ v3))
def dot_Has(l1:List TDot)(d2:TDot):M Bool:=
 M.bind (M.det (slices_Contains_sl_Dot_Dot l1 d2)) fun v3=>
 M.pure v3
def event_Kills(e1:TEvent)(d2:TDot):M Bool:=
 M.bind (M.det (dot_Has e1.kills d2)) fun v3=>
 M.pure v3
def kills_Dead_l0(l1:List TEvent)(d2:TDot):Int → M (M.Step Int (M.Ex Unit Bool)):=fun v16=>
 cond ((decide (v16 < (List.length l1:Int))))
  (M.bind (M.idx l1 v16) fun x18=>
  M.bind (M.det (event_Kills x18 d2)) fun v20=>
  cond v20
   (M.pure (.done (.ret true)))
   (M.pure (.next (IntKind.i64.wrap (v16+1)))))
  (M.pure (.done (.brk ())))
def kills_Dead(l1:List TEvent)(d2:TDot):M Bool:=
 M.bind (M.loop (kills_Dead_l0 l1 d2) 0) (M.exk (fun _=>
 M.pure false))
def slices_Clone_sl_Dot_Dot(s1:List TDot):M (List TDot):=
 M.bind (M.isNil s1) fun b2=>
 cond b2
  (M.pure ([]:List TDot))
  (M.need ((List.length ([]:List TDot)+List.length s1)*16 ≤ 140737488355328) <|
  M.pure (([]:List TDot)++s1))
def slices_Compact_sl_Dot_Dot_o_l0(row1:List TDot)(k148:Int):Int×Int×List TDot → M (M.Step (Int×Int×List TDot) (Int×List TDot)):=fun⟨k197,k2_198,v199⟩=>
 cond ((decide (k2_198 < ((((List.length row1 - Int.toNat k148):Nat):Int)))))
  (M.bind (M.need ((0:Int) ≤ k2_198 ∧ k2_198 < (((List.length row1 - Int.toNat k148):Nat):Int))<|M.bind (M.idx v199 ((((Int.toNat k148)+Int.toNat k2_198):Nat):Int)) fun x203=>
  M.need ((0:Int) ≤ (IntKind.i64.wrap (k2_198 - 1)) ∧ (IntKind.i64.wrap (k2_198 - 1)) < (((List.length row1 - Int.toNat k148):Nat):Int))<|M.bind (M.idx v199 ((((Int.toNat k148)+Int.toNat (IntKind.i64.wrap (k2_198 - 1))):Nat):Int)) fun x207=>
  cond ((!(decide (x203.dev=x207.dev)&&decide (x203.n=x207.n))))
   (M.need ((0:Int) ≤ k2_198 ∧ k2_198 < (((List.length row1 - Int.toNat k148):Nat):Int))<|M.bind (M.idx v199 ((((Int.toNat k148)+Int.toNat k2_198):Nat):Int)) fun x212=>
   M.bind (M.idx v199 k197) fun x216=>
   M.pure (((IntKind.i64.wrap (k197+1)),(List.set v199 (Int.toNat k197) x212))))
   (M.pure (k197,v199))) (fun⟨k201,v202⟩=>
  M.pure (.next ((k201,(IntKind.i64.wrap (k2_198+1)),v202)))))
  (M.pure (.done (k197,v199)))
def slices_Compact_sl_Dot_Dot_o_l1(row1:List TDot):Int → M (M.Step Int (M.Ex Unit (List TDot))):=fun k148=>
 cond ((decide (k148 < ((List.length row1):Int))))
  (M.bind (M.bind (M.idx row1 k148) fun x150=>
  M.bind (M.idx row1 (IntKind.i64.wrap (k148 - 1))) fun x152=>
  cond (((decide (x150.dev=x152.dev)&&decide (x150.n=x152.n))))
   (M.need ((0:Int) ≤ k148 ∧ k148 ≤ (List.length row1:Int)) <|
   M.bind (M.loop (slices_Compact_sl_Dot_Dot_o_l0 row1 k148) (k148,1,row1)) (fun⟨k156,v157⟩=>
   M.need ((0:Int) ≤ k156 ∧ k156 ≤ (List.length v157:Int)) <|
   M.need ((Int.toNat k156)+(List.length v157 - Int.toNat k156) ≤ List.length v157) <|
   M.need ((0:Int) ≤ 0 ∧ (0:Int) ≤ k156 ∧ k156 ≤ (List.length ((List.take (Int.toNat k156) v157++List.replicate (List.length v157 - Int.toNat k156) (⟨0,0⟩:TDot)++List.drop ((Int.toNat k156)+(List.length v157 - Int.toNat k156)) v157)):Int)) <|
   M.pure (.ret ((.done ((.ret (((List.take (Int.toNat k156) ((List.take (Int.toNat k156) v157++List.replicate (List.length v157 - Int.toNat k156) (⟨0,0⟩:TDot)++List.drop ((Int.toNat k156)+(List.length v157 - Int.toNat k156)) v157))))))))))))
   (M.pure (.brk ()))) (M.exk (fun _=>
  M.pure (.next (IntKind.i64.wrap (k148+1))))))
  (M.pure (.done (.brk ())))
def slices_Compact_sl_Dot_Dot_o(row1:List TDot):M (List TDot):=
 cond ((decide (((List.length row1):Int) < 2)))
  (M.pure row1)
  (M.bind (M.loop (slices_Compact_sl_Dot_Dot_o_l1 row1) 1) (M.exk (fun _=>
  M.pure row1)))
def dot_Sort(l1:List TDot):M (List TDot):=
 M.bind (M.det (slices_Clone_sl_Dot_Dot l1)) fun v2=>
 M.need (List.length v2 < 4611686018427387904)<|M.bind (M.srt ltDot v2) fun s4=>
 M.bind (M.det (slices_Compact_sl_Dot_Dot_o s4)) fun y8=>
 M.pure y8
def kills_part_l0(l1:List TDot)(c2:List TPart)(has3:Bool):Int×List TDot → M (M.Step (Int×List TDot) (List TDot)):=fun⟨v23,out24⟩=>
 cond ((decide (v23 < (List.length l1:Int))))
  (M.bind (M.bind (M.idx l1 v23) fun x27=>
  M.bind (M.det (ctx_Has c2 x27)) fun v29=>
  cond (v29==has3)
   (M.need ((List.length out24+List.length ([x27]))*16 ≤ 140737488355328) <|
   M.pure (out24++[x27]))
   (M.pure out24)) (fun out26=>
  M.pure (.next (((IntKind.i64.wrap (v23+1)),out26)))))
  (M.pure (.done out24))
def kills_part(l1:List TDot)(c2:List TPart)(has3:Bool):M (List TDot):=
 M.bind (M.loop (kills_part_l0 l1 c2 has3) (0,([]:List TDot))) (fun out4=>
 M.bind (M.det (dot_Sort out4)) fun v33=>
 M.pure v33)
def kills_Drop(l1:List TDot)(c2:List TPart):M (List TDot):=
 M.bind (M.det (kills_part l1 c2 false)) fun v3=>
 M.pure v3
def event_Dots_l0(l1:List TEvent):Int×List TDot → M (M.Step (Int×List TDot) (List TDot)):=fun⟨v15,out16⟩=>
 cond ((decide (v15 < (List.length l1:Int))))
  (M.bind (M.idx l1 v15) fun x18=>
  M.need ((List.length out16+List.length ([x18.dot]))*16 ≤ 140737488355328) <|
  M.need ((List.length (out16++[x18.dot])+List.length x18.kills)*16 ≤ 140737488355328) <|
  M.pure (.next (((IntKind.i64.wrap (v15+1)),((out16++[x18.dot])++x18.kills)))))
  (M.pure (.done out16))
def event_Dots(l1:List TEvent):M (List TDot):=
 M.bind (M.loop (event_Dots_l0 l1) (0,([]:List TDot))) (fun out2=>
 M.bind (M.det (dot_Sort out2)) fun v22=>
 M.pure v22)
def delta_Good_l0(d1:TDelta):Int → M (M.Step Int (M.Ex Unit Bool)):=fun v58=>
 cond ((decide (v58 < (List.length d1.events:Int))))
  (M.bind (M.idx d1.events v58) fun x60=>
  M.bind (M.bind (M.det (event_Good x60)) fun v63=>
  cond (!v63)
   (M.pure true)
   (M.bind (M.det (ctx_Has d1.from_ x60.dot)) fun v66=>
   M.pure v66)) (fun v62=>
  cond v62
   (M.pure (.done (.ret false)))
   (M.bind (cond (decide (0 < v58))
    (M.bind (M.idx d1.events (IntKind.i64.wrap (v58 - 1))) fun x71=>
    M.bind (M.det (dot_Cmp x71.dot x60.dot)) fun v73=>
    M.pure (decide (0 ≤ v73)))
    (M.pure false)) (fun v69=>
   cond v69
    (M.pure (.done (.ret false)))
    (M.bind (cond (decide (x60.kind=1))
     (M.bind (M.det (kills_Dead d1.events x60.dot)) fun v78=>
     M.pure v78)
     (M.pure false)) (fun v76=>
    cond v76
     (M.pure (.done (.ret false)))
     (M.pure (.next (IntKind.i64.wrap (v58+1))))))))))
  (M.pure (.done (.brk ())))
def delta_Good(d1:TDelta):M Bool:=
 M.bind (M.bind (M.det (ctx_Good d1.from_)) fun v3=>
 cond (!v3)
  (M.pure true)
  (M.bind (M.det (ctx_Good d1.to_)) fun v6=>
  cond (!v6)
   (M.pure true)
   (M.bind (M.det (ctx_Within d1.from_ d1.to_)) fun v9=>
   cond (!v9)
    (M.pure true)
    (M.pure ((decide (4096 < (List.length d1.events:Int)))))))) (fun v2=>
 cond v2
  (M.pure false)
  (M.bind (M.loop (delta_Good_l0 d1) 0) (M.exk (fun _=>
  M.bind (M.det (event_Dots d1.events)) fun v81=>
  M.bind (M.det (kills_Drop v81 d1.to_)) fun v83=>
  M.pure ((decide ((List.length v83:Int)=0)))))))
def msg_empty(d1:TDelta):M Bool:=
 M.bind (cond ((decide ((List.length d1.from_:Int)=0)))
  (M.pure ((decide ((List.length d1.to_:Int)=0))))
  (M.pure false)) (fun v2=>
 M.pure v2)
def msg_bare(m1:TMsg):M Bool:=
 M.bind (cond (decide (m1.slot=0))
  (cond (decide (m1.try_=0))
   (cond (decide (m1.why=0))
    (cond ((decide ((List.length m1.have_:Int)=0)))
     (cond ((decide ((List.length m1.front:Int)=0)))
      (M.bind (M.det (msg_empty m1.delta)) fun v8=>
      cond v8
       (M.pure ((decide ((List.length m1.delta.events:Int)=0))))
       (M.pure false))
      (M.pure false))
     (M.pure false))
    (M.pure false))
   (M.pure false))
  (M.pure false)) (fun v2=>
 M.pure v2)
def msg_hello(m1:TMsg):M Bool:=
 M.bind (cond (decide (16 ≤ m1.slot))
  (M.pure true)
  (M.bind (M.det (msg_number m1.try_)) fun v4=>
  M.pure (!v4))) (fun v2=>
 cond v2
  (M.pure false)
  (M.bind (cond (decide (m1.kind=1))
   (cond (!decide (m1.dev=0))
    (M.pure true)
    (M.pure (!decide (m1.epoch=0))))
   (M.pure false)) (fun v7=>
  cond v7
   (M.pure false)
   (M.bind (cond (decide (m1.kind=2))
    (M.bind (M.bind (M.det (delta_Good m1.delta)) fun v16=>
    cond (!v16)
     (M.pure true)
     (M.pure ((decide (0 < (List.length m1.delta.from_:Int)))))) (fun v15=>
    cond v15
     (M.pure (.ret false))
     (M.pure (.brk (([]:List TPart),([]:List TPart),([]:List TEvent))))))
    (M.pure (.brk (m1.delta.from_,m1.delta.to_,m1.delta.events)))) (M.exk (fun⟨m11,m12,m13⟩=>
   M.bind (M.det (msg_bare (⟨m1.kind,0,0,m1.dev,m1.epoch,m1.why,m1.have_,m1.front,(⟨m11,m12,m13⟩:TDelta)⟩:TMsg))) fun v20=>
   M.pure v20))))))
def ctx_Only(c1:List TPart)(dev2:Int):M (List TPart):=
 M.bind (M.det (ctx_Runs c1 dev2)) fun v3=>
 M.bind (M.det (ctx_Norm ([(⟨dev2,v3⟩:TPart)]))) fun v5=>
 M.pure v5
def msg_own(c1:List TPart)(dev2:Int):M Bool:=
 M.bind (M.bind (M.det (ctx_Good c1)) fun v4=>
 cond v4
  (M.bind (M.det (ctx_Only c1 dev2)) fun v7=>
  M.bind (M.det (ctx_Within c1 v7)) fun v9=>
  M.pure v9)
  (M.pure false)) (fun v3=>
 M.pure v3)
def msg_pushed_l0(l1:List TEvent)(dev2:Int)(have3:List TPart):Int → M (M.Step Int (M.Ex Unit Bool)):=fun v39=>
 cond ((decide (v39 < (List.length l1:Int))))
  (M.bind (M.idx l1 v39) fun x41=>
  M.bind (M.bind (M.det (event_Good x41)) fun v44=>
  cond (!v44)
   (M.pure true)
   (cond (!decide (x41.dot.dev=dev2))
    (M.pure true)
    (M.bind (M.det (ctx_Has have3 x41.dot)) fun v48=>
    cond v48
     (M.pure true)
     (cond (decide (0 < v39))
      (M.bind (M.idx l1 (IntKind.i64.wrap (v39 - 1))) fun x52=>
      M.bind (M.det (dot_Cmp x52.dot x41.dot)) fun v54=>
      M.pure (decide (0 ≤ v54)))
      (M.pure false))))) (fun v43=>
  cond v43
   (M.pure (.done (.ret false)))
   (M.pure (.next (IntKind.i64.wrap (v39+1))))))
  (M.pure (.done (.brk ())))
def msg_pushed(l1:List TEvent)(dev2:Int)(have3:List TPart):M Bool:=
 M.bind (M.loop (msg_pushed_l0 l1 dev2 have3) 0) (M.exk (fun _=>
 M.bind (cond ((decide (1 ≤ (List.length l1:Int))))
  (M.pure ((decide ((List.length l1:Int) ≤ 4))))
  (M.pure false)) (fun v57=>
 M.pure v57)))
def msg_Good(m1:TMsg):M Bool:=
 M.bind (cond (!decide (m1.kind=1))
  (cond (decide (m1.dev=0))
   (M.pure true)
   (M.bind (M.det (msg_number m1.epoch)) fun v5=>
   M.pure (!v5)))
  (M.pure false)) (fun v2=>
 cond v2
  (M.pure false)
  (M.bind (M.bind (M.bind (cond (decide (m1.kind=1))
   (M.pure (decide (m1.kind=1)))
   (M.pure (decide (m1.kind=2)))) (fun v14=>
  cond v14
   (M.bind (M.det (msg_hello m1)) fun v17=>
   M.pure (.ret (.ret v17)))
   (cond (decide (m1.kind=6))
    (M.bind (M.det (msg_own m1.have_ m1.dev)) fun v20=>
    cond (!v20)
     (M.pure (.ret (.ret false)))
     (M.pure (.brk ())))
    (M.bind (cond (decide (m1.kind=3))
     (M.pure (decide (m1.kind=3)))
     (M.pure (decide (m1.kind=7)))) (fun v23=>
    cond v23
     (M.pure (.brk ()))
     (cond (decide (m1.kind=4))
      (M.bind (M.bind (M.bind (M.det (delta_Good m1.delta)) fun v28=>
      cond (!v28)
       (M.pure true)
       (M.bind (M.det (ctx_Good m1.front)) fun v31=>
       cond (!v31)
        (M.pure true)
        (M.bind (M.det (ctx_Within m1.front m1.delta.to_)) fun v34=>
        M.pure (!v34)))) (fun v27=>
      cond v27
       (M.pure (.ret false))
       (M.pure (.brk (m1.why,m1.have_,([]:List TPart),([]:List TPart),([]:List TPart),([]:List TEvent)))))) (fun z=>M.pure (.ret z)))
      (cond (decide (m1.kind=5))
       (M.bind (M.bind (M.bind (M.det (msg_own m1.have_ m1.dev)) fun v39=>
       cond (!v39)
        (M.pure true)
        (M.bind (M.det (msg_pushed m1.delta.events m1.dev m1.have_)) fun v42=>
        M.pure (!v42))) (fun v38=>
       cond v38
        (M.pure (.ret false))
        (M.pure (.brk (m1.why,([]:List TPart),m1.front,m1.delta.from_,m1.delta.to_,([]:List TEvent)))))) (fun z=>M.pure (.ret z)))
       (cond (decide (m1.kind=8))
        (M.pure (.ret (.brk (m1.why,m1.have_,m1.front,m1.delta.from_,m1.delta.to_,m1.delta.events))))
        (cond (decide (m1.kind=9))
         (M.bind (M.bind (cond (!decide (m1.why=1))
          (M.pure (!decide (m1.why=2)))
          (M.pure false)) (fun v47=>
         cond v47
          (M.pure (.ret false))
          (M.pure (.brk (0,m1.have_,m1.front,m1.delta.from_,m1.delta.to_,m1.delta.events))))) (fun z=>M.pure (.ret z)))
         (M.pure (.ret (.ret false)))))))))))) (M.exk (fun _=>
  M.bind (M.det (ctx_Good m1.have_)) fun v50=>
  cond (!v50)
   (M.pure (.ret false))
   (M.pure (.brk (m1.why,([]:List TPart),m1.front,m1.delta.from_,m1.delta.to_,m1.delta.events)))))) (M.exk (fun⟨m8,m9,m10,m11,m12,m13⟩=>
  M.bind (M.det (msg_bare (⟨m1.kind,m1.slot,m1.try_,m1.dev,m1.epoch,m8,m9,m10,(⟨m11,m12,m13⟩:TDelta)⟩:TMsg))) fun v53=>
  M.pure v53))))
def msg_ToHub(kind1:Int):M Bool:=
 M.bind (cond (decide (kind1=1))
  (M.pure (decide (kind1=1)))
  (cond (decide (kind1=3))
   (M.pure (decide (kind1=3)))
   (cond (decide (kind1=5))
    (M.pure (decide (kind1=5)))
    (cond (decide (kind1=7))
     (M.pure (decide (kind1=7)))
     (M.pure (decide (kind1=8))))))) (fun v2=>
 cond v2
  (M.pure true)
  (M.pure false))
def l27_works :M Bool:=
 M.bind (M.bind (M.det (msg_Good ((⟨8,0,0,1,2,0,([]:List TPart),([]:List TPart),(⟨([]:List TPart),([]:List TPart),([]:List TEvent)⟩:TDelta)⟩:TMsg)))) fun v2=>
 cond v2
  (M.bind (M.det (msg_Good ((⟨8,0,0,1,2,1,([]:List TPart),([]:List TPart),(⟨([]:List TPart),([]:List TPart),([]:List TEvent)⟩:TDelta)⟩:TMsg)))) fun v5=>
  cond (!v5)
   (M.bind (M.det (msg_ToHub 8)) fun v8=>
   M.pure v8)
   (M.pure false))
  (M.pure false)) (fun v1=>
 M.pure v1)
def slices_Clone_Ctx_Part(s1:List TPart):M (List TPart):=
 M.bind (M.isNil s1) fun b2=>
 cond b2
  (M.pure ([]:List TPart))
  (M.need ((List.length ([]:List TPart)+List.length s1)*32 ≤ 140737488355328) <|
  M.pure (([]:List TPart)++s1))
def slices_Clone_sl_Run_Run(s1:List TRun):M (List TRun):=
 M.bind (M.isNil s1) fun b2=>
 cond b2
  (M.pure ([]:List TRun))
  (M.need ((List.length ([]:List TRun)+List.length s1)*16 ≤ 140737488355328) <|
  M.pure (([]:List TRun)++s1))
def r06_Eq_l0(a1:List TRun)(b2:List TRun):Int → M (M.Step Int (M.Ex Unit Bool)):=fun i17=>
 cond ((decide (i17 < (List.length a1:Int))))
  (M.bind (M.idx a1 i17) fun x19=>
  M.bind (M.idx b2 i17) fun x21=>
  cond ((!(decide (x19.lo=x21.lo)&&decide (x19.hi=x21.hi))))
   (M.pure (.done (.ret false)))
   (M.pure (.next (IntKind.i64.wrap (i17+1)))))
  (M.pure (.done (.brk ())))
def r06_Eq(a1:List TRun)(b2:List TRun):M Bool:=
 cond ((!decide ((List.length a1:Int)=(List.length b2:Int))))
  (M.pure false)
  (M.bind (M.loop (r06_Eq_l0 a1 b2) 0) (M.exk (fun _=>
  M.pure true)))
def r09_Eq_l0(a1:List TPart)(b2:List TPart):Int → M (M.Step Int (M.Ex Unit Bool)):=fun i33=>
 cond ((decide (i33 < (List.length a1:Int))))
  (M.bind (M.bind (M.idx a1 i33) fun x36=>
  M.bind (M.idx b2 i33) fun x38=>
  cond (!decide (x36.dev=x38.dev))
   (M.pure true)
   (M.bind (M.idx a1 i33) fun x41=>
   M.bind (M.idx b2 i33) fun x43=>
   M.bind (M.det (r06_Eq x41.runs x43.runs)) fun v45=>
   M.pure (!v45))) (fun v35=>
  cond v35
   (M.pure (.done (.ret false)))
   (M.pure (.next (IntKind.i64.wrap (i33+1))))))
  (M.pure (.done (.brk ())))
def r09_Eq(a1:List TPart)(b2:List TPart):M Bool:=
 cond ((!decide ((List.length a1:Int)=(List.length b2:Int))))
  (M.pure false)
  (M.bind (M.loop (r09_Eq_l0 a1 b2) 0) (M.exk (fun _=>
  M.pure true)))
def r06_may(x1:TRun):M Bool:=
 M.bind (cond (decide (1 ≤ x1.lo))
  (cond (decide (x1.lo ≤ x1.hi))
   (M.pure (decide (x1.hi ≤ 281474976710655)))
   (M.pure false))
  (M.pure false)) (fun v2=>
 M.pure v2)
def r06_Has_l0(l1:List TRun)(n2:Int):Int → M (M.Step Int (M.Ex Unit Bool)):=fun i30=>
 cond ((decide (i30 < (List.length l1:Int))))
  (M.bind (M.bind (M.idx l1 i30) fun x33=>
  M.bind (M.det (r06_may x33)) fun v35=>
  cond v35
   (M.bind (M.idx l1 i30) fun x38=>
   cond (decide (x38.lo ≤ n2))
    (M.bind (M.idx l1 i30) fun x41=>
    M.pure (decide (n2 ≤ x41.hi)))
    (M.pure false))
   (M.pure false)) (fun v32=>
  cond v32
   (M.pure (.done (.ret true)))
   (M.pure (.next (IntKind.i64.wrap (i30+1))))))
  (M.pure (.done (.brk ())))
def r06_Has(l1:List TRun)(n2:Int):M Bool:=
 M.bind (M.loop (r06_Has_l0 l1 n2) 0) (M.exk (fun _=>
 M.pure false))
def r06_put_l0(l1:List Int)(n2:Int):Bool×Int×List Int → M (M.Step (Bool×Int×List Int) (Bool×List Int)):=fun⟨done43,i44,out45⟩=>
 cond ((decide (i44 < (List.length l1:Int))))
  (M.bind (M.bind (cond (!done43)
   (M.bind (M.idx l1 i44) fun x51=>
   M.pure (decide (n2 ≤ x51)))
   (M.pure false)) (fun v49=>
  M.bind (cond v49
   (M.need ((List.length out45+List.length ([n2]))*8 ≤ 140737488355328) <|
   M.pure (true,(out45++[n2])))
   (M.pure (done43,out45))) (fun⟨done53,out54⟩=>
  M.bind (M.idx l1 i44) fun x57=>
  cond (!decide (x57=n2))
   (M.bind (M.idx l1 i44) fun x60=>
   M.need ((List.length out54+List.length ([x60]))*8 ≤ 140737488355328) <|
   M.pure (done53,(out54++[x60])))
   (M.pure (done53,out54))))) (fun⟨done47,out48⟩=>
  M.pure (.next ((done47,(IntKind.i64.wrap (i44+1)),out48)))))
  (M.pure (.done (done43,out45)))
def r06_put(l1:List Int)(n2:Int):M (List Int):=
 M.bind (M.loop (r06_put_l0 l1 n2) (false,0,([]:List Int))) (fun⟨done3,out4⟩=>
 M.bind (cond (!done3)
  (M.need ((List.length out4+List.length ([n2]))*8 ≤ 140737488355328) <|
  M.pure (out4++[n2]))
  (M.pure out4)) (fun out63=>
 M.pure out63))
def r06_points_l0(a1:List TRun)(b2:List TRun):List Int×Int → M (M.Step (List Int×Int) (List Int)):=fun⟨out38,i39⟩=>
 cond ((decide (i39 < (((List.length ((([]:List TRun)++a1)++b2)):Int)))))
  (M.bind (M.bind (M.idx (((([]:List TRun)++a1)++b2)) i39) fun x42=>
  M.bind (M.det (r06_may x42)) fun v44=>
  cond v44
   (M.bind (M.idx (((([]:List TRun)++a1)++b2)) i39) fun x47=>
   M.bind (M.det (r06_put out38 x47.lo)) fun v49=>
   M.bind (M.idx (((([]:List TRun)++a1)++b2)) i39) fun x51=>
   M.bind (M.det (r06_put v49 (IntKind.u64.wrap (x51.hi+1)))) fun v53=>
   M.pure v53)
   (M.pure out38)) (fun out41=>
  M.pure (.next ((out41,(IntKind.i64.wrap (i39+1)))))))
  (M.pure (.done out38))
def r06_points(a1:List TRun)(b2:List TRun):M (List Int):=
 M.need ((List.length ([]:List TRun)+List.length a1)*16 ≤ 140737488355328) <|
 M.need ((List.length (([]:List TRun)++a1)+List.length b2)*16 ≤ 140737488355328) <|
 M.bind (M.loop (r06_points_l0 a1 b2) (([]:List Int),0)) (fun out5=>
 M.pure out5)
def r06_set_l0(v4:List Int)(a1:List TRun)(b2:List TRun)(how3:Int):Int×List TRun → M (M.Step (Int×List TRun) (List TRun)):=fun⟨i85,out86⟩=>
 cond ((decide ((IntKind.i64.wrap (i85+1)) < (List.length v4:Int))))
  (M.bind (M.bind (M.idx v4 i85) fun x89=>
  M.bind (M.det (r06_Has a1 x89)) fun v91=>
  M.bind (M.idx v4 i85) fun x93=>
  M.bind (M.det (r06_Has b2 x93)) fun v95=>
  M.bind (cond v91
   (M.pure true)
   (M.pure v95)) (fun in97=>
  M.bind (cond (decide (how3=1))
   (M.bind (cond v91
    (M.pure v95)
    (M.pure false)) (fun in101=>
   M.pure in101))
   (M.pure in97)) (fun in99=>
  M.bind (cond (decide (how3=2))
   (M.bind (cond v91
    (M.pure (!v95))
    (M.pure false)) (fun in105=>
   M.pure in105))
   (M.pure in99)) (fun in103=>
  M.bind (cond in103
   (cond ((decide (0 ≤ ((IntKind.i64.wrap (((List.length out86):Int) - 1))))))
    (M.bind (M.idx out86 ((IntKind.i64.wrap (((List.length out86):Int) - 1)))) fun x110=>
    M.bind (M.idx v4 i85) fun x112=>
    M.pure ((decide ((IntKind.u64.wrap (x110.hi+1))=x112))))
    (M.pure false))
   (M.pure false)) (fun v107=>
  cond v107
   (M.bind (M.idx v4 (IntKind.i64.wrap (i85+1))) fun x115=>
   M.bind (M.idx out86 ((IntKind.i64.wrap (((List.length out86):Int) - 1)))) fun x117=>
   M.pure ((List.set out86 ((Int.toNat ((IntKind.i64.wrap (((List.length out86):Int) - 1))))) ((⟨x117.lo,(IntKind.u64.wrap (x115 - 1))⟩:TRun)))))
   (cond in103
    (M.bind (M.idx v4 i85) fun x120=>
    M.bind (M.idx v4 (IntKind.i64.wrap (i85+1))) fun x122=>
    M.need ((List.length out86+List.length ([(⟨x120,(IntKind.u64.wrap (x122 - 1))⟩:TRun)]))*16 ≤ 140737488355328) <|
    M.pure ((out86++[(⟨x120,(IntKind.u64.wrap (x122 - 1))⟩:TRun)])))
    (M.pure out86))))))) (fun out88=>
  M.pure (.next (((IntKind.i64.wrap (i85+1)),out88)))))
  (M.pure (.done out86))
def r06_set(a1:List TRun)(b2:List TRun)(how3:Int):M (List TRun):=
 M.bind (M.det (r06_points a1 b2)) fun v4=>
 M.bind (M.loop (r06_set_l0 v4 a1 b2 how3) (0,([]:List TRun))) (fun out6=>
 M.pure out6)
def r06_Join(a1:List TRun)(b2:List TRun):M (List TRun):=
 M.bind (M.det (r06_set a1 b2 0)) fun v3=>
 M.pure v3
def r09_Runs_l0(c1:List TPart)(dev2:Int):List TRun×Int → M (M.Step (List TRun×Int) (List TRun)):=fun⟨out28,i29⟩=>
 cond ((decide (i29 < (List.length c1:Int))))
  (M.bind (M.bind (M.bind (M.idx c1 i29) fun x33=>
  cond (decide (x33.dev=dev2))
   (M.pure (!decide (dev2=0)))
   (M.pure false)) (fun v32=>
  cond v32
   (M.bind (M.idx c1 i29) fun x37=>
   M.bind (M.det (r06_Join out28 x37.runs)) fun v39=>
   M.pure v39)
   (M.pure out28))) (fun out31=>
  M.pure (.next ((out31,(IntKind.i64.wrap (i29+1)))))))
  (M.pure (.done out28))
def r09_Runs(c1:List TPart)(dev2:Int):M (List TRun):=
 M.bind (M.loop (r09_Runs_l0 c1 dev2) (([]:List TRun),0)) (fun out3=>
 M.pure out3)
def r07_Cmp(a1:TDot)(b2:TDot):M Int:=
 cond (((decide (a1.dev=b2.dev)&&decide (a1.n=b2.n))))
  (M.pure 0)
  (M.bind (cond (decide (a1.dev < b2.dev))
   (M.pure true)
   (cond (decide (a1.dev=b2.dev))
    (M.pure (decide (a1.n < b2.n)))
    (M.pure false))) (fun v4=>
  cond v4
   (M.pure (-1))
   (M.pure 1)))
def r07_Put_l0(l1:List TDot)(d2:TDot):Int×List TDot → M (M.Step (Int×List TDot) (List TDot)):=fun⟨i26,out27⟩=>
 cond ((decide (i26 < (List.length l1:Int))))
  (M.bind (M.bind (M.idx l1 i26) fun x30=>
  M.bind (M.det (r07_Cmp x30 d2)) fun v32=>
  cond (decide (v32 < 0))
   (M.bind (M.idx l1 i26) fun x35=>
   M.need ((List.length out27+List.length ([x35]))*16 ≤ 140737488355328) <|
   M.pure (out27++[x35]))
   (M.pure out27)) (fun out29=>
  M.pure (.next (((IntKind.i64.wrap (i26+1)),out29)))))
  (M.pure (.done out27))
def r07_Put_l1(l1:List TDot)(d2:TDot):Int×List TDot → M (M.Step (Int×List TDot) (List TDot)):=fun⟨i62,out63⟩=>
 cond ((decide (i62 < (List.length l1:Int))))
  (M.bind (M.bind (M.idx l1 i62) fun x66=>
  M.bind (M.det (r07_Cmp x66 d2)) fun v68=>
  cond (decide (0 < v68))
   (M.bind (M.idx l1 i62) fun x71=>
   M.need ((List.length out63+List.length ([x71]))*16 ≤ 140737488355328) <|
   M.pure (out63++[x71]))
   (M.pure out63)) (fun out65=>
  M.pure (.next (((IntKind.i64.wrap (i62+1)),out65)))))
  (M.pure (.done out63))
def r07_Put(l1:List TDot)(d2:TDot):M (List TDot):=
 M.bind (M.loop (r07_Put_l0 l1 d2) (0,([]:List TDot))) (fun out3=>
 M.need ((List.length out3+List.length ([d2]))*16 ≤ 140737488355328) <|
 M.bind (M.loop (r07_Put_l1 l1 d2) (0,(out3++[d2]))) (fun out39=>
 M.pure out39))
def r09_devs_l0(a1:List TPart):List TDot×Int → M (M.Step (List TDot×Int) (List TDot)):=fun⟨out16,i17⟩=>
 cond ((decide (i17 < (List.length a1:Int))))
  (M.bind (M.idx a1 i17) fun x19=>
  M.bind (M.det (r07_Put out16 (⟨x19.dev,1⟩:TDot))) fun v21=>
  M.pure (.next ((v21,(IntKind.i64.wrap (i17+1))))))
  (M.pure (.done out16))
def r09_devs_l1(b2:List TPart):List TDot×Int → M (M.Step (List TDot×Int) (List TDot)):=fun⟨out36,i37⟩=>
 cond ((decide (i37 < (List.length b2:Int))))
  (M.bind (M.idx b2 i37) fun x39=>
  M.bind (M.det (r07_Put out36 (⟨x39.dev,1⟩:TDot))) fun v41=>
  M.pure (.next ((v41,(IntKind.i64.wrap (i37+1))))))
  (M.pure (.done out36))
def r09_devs(a1:List TPart)(b2:List TPart):M (List TDot):=
 M.bind (M.loop (r09_devs_l0 a1) (([]:List TDot),0)) (fun out3=>
 M.bind (M.loop (r09_devs_l1 b2) (out3,0)) (fun out23=>
 M.pure out23))
def r06_Meet(a1:List TRun)(b2:List TRun):M (List TRun):=
 M.bind (M.det (r06_set a1 b2 1)) fun v3=>
 M.pure v3
def r06_Minus(a1:List TRun)(b2:List TRun):M (List TRun):=
 M.bind (M.det (r06_set a1 b2 2)) fun v3=>
 M.pure v3
def r09_set_l0(v4:List TDot)(a1:List TPart)(b2:List TPart)(how3:Int):Int×List TPart → M (M.Step (Int×List TPart) (List TPart)):=fun⟨i57,out58⟩=>
 cond ((decide (i57 < (List.length v4:Int))))
  (M.bind (M.bind (M.idx v4 i57) fun x61=>
  M.bind (M.det (r09_Runs a1 x61.dev)) fun v63=>
  M.bind (M.idx v4 i57) fun x65=>
  M.bind (M.det (r09_Runs b2 x65.dev)) fun v67=>
  M.bind (M.det (r06_Join v63 v67)) fun v69=>
  M.bind (cond (decide (how3=1))
   (M.bind (M.det (r06_Meet v63 v67)) fun v73=>
   M.pure v73)
   (M.pure v69)) (fun z71=>
  M.bind (cond (decide (how3=2))
   (M.bind (M.det (r06_Minus v63 v67)) fun v77=>
   M.pure v77)
   (M.pure z71)) (fun z75=>
  cond ((decide (0 < (List.length z75:Int))))
   (M.bind (M.idx v4 i57) fun x80=>
   M.need ((List.length out58+List.length ([(⟨x80.dev,z75⟩:TPart)]))*32 ≤ 140737488355328) <|
   M.pure (out58++[(⟨x80.dev,z75⟩:TPart)]))
   (M.pure out58)))) (fun out60=>
  M.pure (.next (((IntKind.i64.wrap (i57+1)),out60)))))
  (M.pure (.done out58))
def r09_set(a1:List TPart)(b2:List TPart)(how3:Int):M (List TPart):=
 M.bind (M.det (r09_devs a1 b2)) fun v4=>
 M.bind (M.loop (r09_set_l0 v4 a1 b2 how3) (0,([]:List TPart))) (fun out6=>
 M.pure out6)
def r09_Norm(c1:List TPart):M (List TPart):=
 M.bind (M.det (r09_set c1 ([]:List TPart) 0)) fun v2=>
 M.pure v2
def r09_Same(a1:List TPart)(b2:List TPart):M Bool:=
 M.bind (M.det (r09_Norm a1)) fun v3=>
 M.bind (M.det (r09_Norm b2)) fun v5=>
 M.bind (M.det (r09_Eq v3 v5)) fun v7=>
 M.pure v7
def r07_Same_l0(a1:List TDot)(b2:List TDot):Int → M (M.Step Int (M.Ex Unit Bool)):=fun i17=>
 cond ((decide (i17 < (List.length a1:Int))))
  (M.bind (M.idx a1 i17) fun x19=>
  M.bind (M.idx b2 i17) fun x21=>
  cond ((!(decide (x19.dev=x21.dev)&&decide (x19.n=x21.n))))
   (M.pure (.done (.ret false)))
   (M.pure (.next (IntKind.i64.wrap (i17+1)))))
  (M.pure (.done (.brk ())))
def r07_Same(a1:List TDot)(b2:List TDot):M Bool:=
 cond ((!decide ((List.length a1:Int)=(List.length b2:Int))))
  (M.pure false)
  (M.bind (M.loop (r07_Same_l0 a1 b2) 0) (M.exk (fun _=>
  M.pure true)))
def r13_Same(a1:TEvent)(b2:TEvent):M Bool:=
 M.bind (cond (((decide (a1.dot.dev=b2.dot.dev)&&decide (a1.dot.n=b2.dot.n))))
  (cond (decide (a1.kind=b2.kind))
   (cond (decide (a1.cid=b2.cid))
    (cond (decide (a1.field=b2.field))
     (cond (decide (a1.text=b2.text))
      (M.bind (M.det (r07_Same a1.kills b2.kills)) fun v9=>
      M.pure v9)
      (M.pure false))
     (M.pure false))
    (M.pure false))
   (M.pure false))
  (M.pure false)) (fun v3=>
 M.pure v3)
def r13_All_l0(a1:List TEvent)(b2:List TEvent):Int → M (M.Step Int (M.Ex Unit Bool)):=fun i21=>
 cond ((decide (i21 < (List.length a1:Int))))
  (M.bind (M.idx a1 i21) fun x23=>
  M.bind (M.idx b2 i21) fun x25=>
  M.bind (M.det (r13_Same x23 x25)) fun v27=>
  cond (!v27)
   (M.pure (.done (.ret false)))
   (M.pure (.next (IntKind.i64.wrap (i21+1)))))
  (M.pure (.done (.brk ())))
def r13_All(a1:List TEvent)(b2:List TEvent):M Bool:=
 cond ((!decide ((List.length a1:Int)=(List.length b2:Int))))
  (M.pure false)
  (M.bind (M.loop (r13_All_l0 a1 b2) 0) (M.exk (fun _=>
  M.pure true)))
def r20_Same(a1:TDelta)(b2:TDelta):M Bool:=
 M.bind (M.bind (M.det (r09_Same a1.from_ b2.from_)) fun v4=>
 cond v4
  (M.bind (M.det (r09_Same a1.to_ b2.to_)) fun v7=>
  cond v7
   (M.bind (M.det (r13_All a1.events b2.events)) fun v10=>
   M.pure v10)
   (M.pure false))
  (M.pure false)) (fun v3=>
 M.pure v3)
def r27_Same(a1:TMsg)(b2:TMsg):M Bool:=
 M.bind (cond (!decide (a1.kind=b2.kind))
  (M.pure true)
  (cond (!decide (a1.slot=b2.slot))
   (M.pure true)
   (cond (!decide (a1.try_=b2.try_))
    (M.pure true)
    (cond (!decide (a1.dev=b2.dev))
     (M.pure true)
     (cond (!decide (a1.epoch=b2.epoch))
      (M.pure true)
      (M.pure (!decide (a1.why=b2.why)))))))) (fun v3=>
 cond v3
  (M.pure false)
  (M.bind (M.bind (M.det (r09_Same a1.have_ b2.have_)) fun v11=>
  cond v11
   (M.bind (M.det (r09_Same a1.front b2.front)) fun v14=>
   cond v14
    (M.bind (M.det (r20_Same a1.delta b2.delta)) fun v17=>
    M.pure v17)
    (M.pure false))
   (M.pure false)) (fun v10=>
  M.pure v10)))
def ctx_Same(a1:List TPart)(b2:List TPart):M Bool:=
 M.bind (M.det (ctx_Norm a1)) fun v3=>
 M.bind (M.det (ctx_Norm b2)) fun v5=>
 M.bind (M.det (ctx_eq v3 v5)) fun v7=>
 M.pure v7
def slices_Equal_sl_Dot_Dot_l0(s1_1:List TDot)(s2_2:List TDot):Int → M (M.Step Int (M.Ex Unit Bool)):=fun v17=>
 cond ((decide (v17 < (List.length s1_1:Int))))
  (M.bind (M.idx s1_1 v17) fun x19=>
  M.bind (M.idx s2_2 v17) fun x21=>
  cond ((!(decide (x19.dev=x21.dev)&&decide (x19.n=x21.n))))
   (M.pure (.done (.ret false)))
   (M.pure (.next (IntKind.i64.wrap (v17+1)))))
  (M.pure (.done (.brk ())))
def slices_Equal_sl_Dot_Dot(s1_1:List TDot)(s2_2:List TDot):M Bool:=
 cond ((!decide ((List.length s1_1:Int)=(List.length s2_2:Int))))
  (M.pure false)
  (M.bind (M.loop (slices_Equal_sl_Dot_Dot_l0 s1_1 s2_2) 0) (M.exk (fun _=>
  M.pure true)))
def dot_Same(a1:List TDot)(b2:List TDot):M Bool:=
 M.bind (M.det (slices_Equal_sl_Dot_Dot a1 b2)) fun v3=>
 M.pure v3
def event_Same(a1:TEvent)(b2:TEvent):M Bool:=
 M.bind (cond (((decide (a1.dot.dev=b2.dot.dev)&&decide (a1.dot.n=b2.dot.n))))
  (cond (decide (a1.kind=b2.kind))
   (cond (decide (a1.cid=b2.cid))
    (cond (decide (a1.field=b2.field))
     (cond (decide (a1.text=b2.text))
      (M.bind (M.det (dot_Same a1.kills b2.kills)) fun v9=>
      M.pure v9)
      (M.pure false))
     (M.pure false))
    (M.pure false))
   (M.pure false))
  (M.pure false)) (fun v3=>
 M.pure v3)
def slices_EqualFunc_sl_Event_sl_Event_Event_Event_event_Same_l0(s1_1:List TEvent)(s2_2:List TEvent):Int → M (M.Step Int (M.Ex Unit Bool)):=fun v21=>
 cond ((decide (v21 < (List.length s1_1:Int))))
  (M.bind (M.idx s1_1 v21) fun x23=>
  M.bind (M.idx s2_2 v21) fun x25=>
  M.bind (M.det (event_Same x23 x25)) fun v27=>
  cond (!v27)
   (M.pure (.done (.ret false)))
   (M.pure (.next (IntKind.i64.wrap (v21+1)))))
  (M.pure (.done (.brk ())))
def slices_EqualFunc_sl_Event_sl_Event_Event_Event_event_Same(s1_1:List TEvent)(s2_2:List TEvent):M Bool:=
 cond ((!decide ((List.length s1_1:Int)=(List.length s2_2:Int))))
  (M.pure false)
  (M.bind (M.loop (slices_EqualFunc_sl_Event_sl_Event_Event_Event_event_Same_l0 s1_1 s2_2) 0) (M.exk (fun _=>
  M.pure true)))
def event_All(a1:List TEvent)(b2:List TEvent):M Bool:=
 M.bind (M.det (slices_EqualFunc_sl_Event_sl_Event_Event_Event_event_Same a1 b2)) fun v3=>
 M.pure v3
def delta_Same(a1:TDelta)(b2:TDelta):M Bool:=
 M.bind (M.bind (M.det (ctx_Same a1.from_ b2.from_)) fun v4=>
 cond v4
  (M.bind (M.det (ctx_Same a1.to_ b2.to_)) fun v7=>
  cond v7
   (M.bind (M.det (event_All a1.events b2.events)) fun v10=>
   M.pure v10)
   (M.pure false))
  (M.pure false)) (fun v3=>
 M.pure v3)
def msg_Same(a1:TMsg)(b2:TMsg):M Bool:=
 M.bind (cond (((decide ((IntKind.u64.wrap a1.kind)=(IntKind.u64.wrap b2.kind))&&(decide ((IntKind.u64.wrap a1.slot)=(IntKind.u64.wrap b2.slot))&&(decide (a1.try_=b2.try_)&&(decide ((IntKind.u64.wrap a1.dev)=(IntKind.u64.wrap b2.dev))&&(decide (a1.epoch=b2.epoch)&&decide ((IntKind.u64.wrap a1.why)=(IntKind.u64.wrap b2.why)))))))))
  (M.bind (M.det (ctx_Same a1.have_ b2.have_)) fun v5=>
  cond v5
   (M.bind (M.det (ctx_Same a1.front b2.front)) fun v8=>
   cond v8
    (M.bind (M.det (delta_Same a1.delta b2.delta)) fun v11=>
    M.pure v11)
    (M.pure false))
   (M.pure false))
  (M.pure false)) (fun v3=>
 M.pure v3)
def r27_number(n1:Int):M Bool:=
 M.bind (cond (decide (1 ≤ n1))
  (M.pure (decide (n1 ≤ 281474976710655)))
  (M.pure false)) (fun v2=>
 M.pure v2)
def r09_Good(c1:List TPart):M Bool:=
 M.bind (M.det (r09_Norm c1)) fun v2=>
 M.bind (M.det (r09_Eq c1 v2)) fun v4=>
 M.pure v4
def r09_Only(c1:List TPart)(dev2:Int):M (List TPart):=
 M.bind (M.det (r09_Runs c1 dev2)) fun v3=>
 cond ((decide ((List.length v3:Int)=0)))
  (M.pure ([]:List TPart))
  (M.pure ([(⟨dev2,v3⟩:TPart)]))
def r09_Minus(a1:List TPart)(b2:List TPart):M (List TPart):=
 M.bind (M.det (r09_set a1 b2 2)) fun v3=>
 M.pure v3
def r09_Within(a1:List TPart)(b2:List TPart):M Bool:=
 M.bind (M.det (r09_Minus a1 b2)) fun v3=>
 M.pure ((decide (((List.length v3):Int)=0)))
def r07_Good(d1:TDot):M Bool:=
 M.bind (cond (decide (1 ≤ d1.dev))
  (cond (decide (1 ≤ d1.n))
   (M.pure (decide (d1.n < 281474976710656)))
   (M.pure false))
  (M.pure false)) (fun v2=>
 M.pure v2)
def r01_Split(v1:Int):M (Int×Int):=
 M.pure (((IntKind.u16.wrap (IntKind.u64.wrap (Int.tdiv v1 281474976710656))),(Int.tmod v1 281474976710656)))
def r07_Unpack(v1:Int):M (TDot×Bool):=
 M.bind (M.det (r01_Split v1)) fun v2=>
 M.bind (M.det (r07_Good (⟨v2.1,v2.2⟩:TDot))) fun v4=>
 cond (!v4)
  (M.pure ((⟨0,0⟩:TDot),false))
  (M.pure ((⟨v2.1,v2.2⟩:TDot),true))
def r11_Good(f1:Int):M Bool:=
 M.bind (cond (decide (1 ≤ f1))
  (M.pure (decide (f1 ≤ 5)))
  (M.pure false)) (fun v2=>
 M.pure v2)
def r11_Text_l0(s1:ByteArray):Int → M (M.Step Int (M.Ex Unit Bool)):=fun i19=>
 cond ((decide (i19 < (ByteArray.size s1:Int))))
  (M.bind (M.bind (M.idx (bytesL s1) i19) fun b22=>
  cond (decide (b22 < 32))
   (M.pure true)
   (M.bind (M.idx (bytesL s1) i19) fun b25=>
   M.pure (decide (126 < b25)))) (fun v21=>
  cond v21
   (M.pure (.done (.ret false)))
   (M.pure (.next (IntKind.i64.wrap (i19+1))))))
  (M.pure (.done (.brk ())))
def r11_Text(s1:ByteArray):M Bool:=
 M.bind (M.loop (r11_Text_l0 s1) 0) (M.exk (fun _=>
 M.pure ((decide ((ByteArray.size s1:Int) ≤ 60)))))
def r07_Rising_l0(l1:List TDot):Int → M (M.Step Int (M.Ex Unit Bool)):=fun i19=>
 cond ((decide (i19 < (List.length l1:Int))))
  (M.bind (M.idx l1 (IntKind.i64.wrap (i19 - 1))) fun x21=>
  M.bind (M.idx l1 i19) fun x23=>
  M.bind (M.det (r07_Cmp x21 x23)) fun v25=>
  cond (decide (0 ≤ v25))
   (M.pure (.done (.ret false)))
   (M.pure (.next (IntKind.i64.wrap (i19+1)))))
  (M.pure (.done (.brk ())))
def r07_Rising(l1:List TDot):M Bool:=
 M.bind (M.loop (r07_Rising_l0 l1) 1) (M.exk (fun _=>
 M.pure true))
def r07_Has_l0(l1:List TDot)(d2:TDot):Int → M (M.Step Int (M.Ex Unit Bool)):=fun i12=>
 cond ((decide (i12 < (List.length l1:Int))))
  (M.bind (M.idx l1 i12) fun x14=>
  cond (((decide (x14.dev=d2.dev)&&decide (x14.n=d2.n))))
   (M.pure (.done (.ret true)))
   (M.pure (.next (IntKind.i64.wrap (i12+1)))))
  (M.pure (.done (.brk ())))
def r07_Has(l1:List TDot)(d2:TDot):M Bool:=
 M.bind (M.loop (r07_Has_l0 l1 d2) 0) (M.exk (fun _=>
 M.pure false))
def r13_Good_l0(e1:TEvent):Int → M (M.Step Int (M.Ex Unit Bool)):=fun i37=>
 cond ((decide (i37 < (List.length e1.kills:Int))))
  (M.bind (M.idx e1.kills i37) fun x39=>
  M.bind (M.det (r07_Good x39)) fun v41=>
  cond (!v41)
   (M.pure (.done (.ret false)))
   (M.pure (.next (IntKind.i64.wrap (i37+1)))))
  (M.pure (.done (.brk ())))
def r13_Good(e1:TEvent):M Bool:=
 M.bind (M.det (r07_Unpack e1.cid)) fun v2=>
 M.bind (cond (!v2.2)
  (M.pure true)
  (M.bind (M.det (r07_Good e1.dot)) fun v6=>
  cond (!v6)
   (M.pure true)
   (cond (!decide (e1.kind=1))
    (M.pure (!decide (e1.kind=2)))
    (M.pure false)))) (fun v4=>
 cond v4
  (M.pure false)
  (M.bind (cond (decide (e1.kind=1))
   (M.bind (M.det (r11_Good e1.field)) fun v13=>
   cond (!v13)
    (M.pure true)
    (M.bind (M.det (r11_Text e1.text)) fun v16=>
    cond (!v16)
     (M.pure true)
     (cond (decide (e1.kind=2))
      (cond (!decide (e1.field=0))
       (M.pure true)
       (M.pure ((!decide (e1.text=(⟨#[]⟩:ByteArray))))))
      (M.pure false))))
   (cond (decide (e1.kind=2))
    (cond (!decide (e1.field=0))
     (M.pure true)
     (M.pure ((!decide (e1.text=(⟨#[]⟩:ByteArray))))))
    (M.pure false))) (fun v11=>
  cond v11
   (M.pure false)
   (M.bind (M.loop (r13_Good_l0 e1) 0) (M.exk (fun _=>
   M.bind (cond ((decide ((List.length e1.kills:Int) ≤ 256)))
    (M.bind (M.det (r07_Rising e1.kills)) fun v46=>
    cond v46
     (M.bind (M.det (r07_Has e1.kills e1.dot)) fun v49=>
     M.pure (!v49))
     (M.pure false))
    (M.pure false)) (fun v44=>
   M.pure v44)))))))
def r09_Has(c1:List TPart)(d2:TDot):M Bool:=
 M.bind (M.bind (M.det (r07_Good d2)) fun v4=>
 cond v4
  (M.bind (M.det (r09_Runs c1 d2.dev)) fun v7=>
  M.bind (M.det (r06_Has v7 d2.n)) fun v9=>
  M.pure v9)
  (M.pure false)) (fun v3=>
 M.pure v3)
def r17_Dead_l0(l1:List TEvent)(d2:TDot):Int → M (M.Step Int (M.Ex Unit Bool)):=fun i_16=>
 cond ((decide (i_16 < (List.length l1:Int))))
  (M.bind (M.idx l1 i_16) fun x18=>
  M.bind (M.det (r07_Has x18.kills d2)) fun v20=>
  cond v20
   (M.pure (.done (.ret true)))
   (M.pure (.next (IntKind.i64.wrap (i_16+1)))))
  (M.pure (.done (.brk ())))
def r17_Dead(l1:List TEvent)(d2:TDot):M Bool:=
 M.bind (M.loop (r17_Dead_l0 l1 d2) 0) (M.exk (fun _=>
 M.pure false))
def r17_Drop_l0(l1:List TDot)(c2:List TPart):List TDot×Int → M (M.Step (List TDot×Int) (List TDot)):=fun⟨out28,i29⟩=>
 cond ((decide (i29 < (List.length l1:Int))))
  (M.bind (M.bind (M.idx l1 i29) fun x32=>
  M.bind (M.det (r09_Has c2 x32)) fun v34=>
  cond (!v34)
   (M.bind (M.idx l1 i29) fun x37=>
   M.bind (M.det (r07_Put out28 x37)) fun v39=>
   M.pure v39)
   (M.pure out28)) (fun out31=>
  M.pure (.next ((out31,(IntKind.i64.wrap (i29+1)))))))
  (M.pure (.done out28))
def r17_Drop(l1:List TDot)(c2:List TPart):M (List TDot):=
 M.bind (M.loop (r17_Drop_l0 l1 c2) (([]:List TDot),0)) (fun out3=>
 M.pure out3)
def r13_Dots_l0(l1:List TEvent)(i80:Int):List TDot×Int → M (M.Step (List TDot×Int) (List TDot)):=fun⟨out107,k108⟩=>
 M.bind (M.idx l1 i80) fun x109=>
 cond ((decide (k108 < (List.length x109.kills:Int))))
  (M.bind (M.idx l1 i80) fun x112=>
  M.bind (M.idx x112.kills k108) fun x114=>
  M.bind (M.det (r07_Put out107 x114)) fun v116=>
  M.pure (.next ((v116,(IntKind.i64.wrap (k108+1))))))
  (M.pure (.done out107))
def r13_Dots_l1(l1:List TEvent):List TDot×Int → M (M.Step (List TDot×Int) (List TDot)):=fun⟨out79,i80⟩=>
 cond ((decide (i80 < (List.length l1:Int))))
  (M.bind (M.bind (M.idx l1 i80) fun x83=>
  M.bind (M.det (r07_Put out79 x83.dot)) fun v85=>
  M.loop (r13_Dots_l0 l1 i80) (v85,0)) (fun out82=>
  M.pure (.next ((out82,(IntKind.i64.wrap (i80+1)))))))
  (M.pure (.done out79))
def r13_Dots(l1:List TEvent):M (List TDot):=
 M.bind (M.loop (r13_Dots_l1 l1) (([]:List TDot),0)) (fun out2=>
 M.pure out2)
def r20_Good_l0(d1:TDelta):Int → M (M.Step Int (M.Ex Unit Bool)):=fun i66=>
 cond ((decide (i66 < (List.length d1.events:Int))))
  (M.bind (M.idx d1.events i66) fun x68=>
  M.bind (M.bind (M.det (r13_Good x68)) fun v71=>
  cond (!v71)
   (M.pure true)
   (cond (decide (0 < i66))
    (M.bind (M.idx d1.events (IntKind.i64.wrap (i66 - 1))) fun x75=>
    M.bind (M.det (r07_Cmp x75.dot x68.dot)) fun v77=>
    cond (decide (0 ≤ v77))
     (M.pure true)
     (M.bind (M.det (r09_Has d1.from_ x68.dot)) fun v80=>
     cond v80
      (M.pure true)
      (cond (decide (x68.kind=1))
       (M.bind (M.det (r17_Dead d1.events x68.dot)) fun v84=>
       M.pure v84)
       (M.pure false))))
    (M.bind (M.det (r09_Has d1.from_ x68.dot)) fun v86=>
    cond v86
     (M.pure true)
     (cond (decide (x68.kind=1))
      (M.bind (M.det (r17_Dead d1.events x68.dot)) fun v90=>
      M.pure v90)
      (M.pure false))))) (fun v70=>
  cond v70
   (M.pure (.done (.ret false)))
   (M.pure (.next (IntKind.i64.wrap (i66+1))))))
  (M.pure (.done (.brk ())))
def r20_Good(d1:TDelta):M Bool:=
 M.bind (M.bind (M.det (r09_Good d1.from_)) fun v3=>
 cond (!v3)
  (M.pure true)
  (M.bind (M.det (r09_Good d1.to_)) fun v6=>
  cond (!v6)
   (M.pure true)
   (M.bind (M.det (r09_Within d1.from_ d1.to_)) fun v9=>
   cond (!v9)
    (M.pure true)
    (M.pure ((decide (4096 < (List.length d1.events:Int)))))))) (fun v2=>
 cond v2
  (M.pure false)
  (M.bind (M.loop (r20_Good_l0 d1) 0) (M.exk (fun _=>
  M.bind (M.det (r13_Dots d1.events)) fun v93=>
  M.bind (M.det (r17_Drop v93 d1.to_)) fun v95=>
  M.pure ((decide ((List.length v95:Int)=0)))))))
def r27_push_l0(d1:TDelta)(dev2:Int):Int → M (M.Step Int (M.Ex Unit Bool)):=fun i40=>
 cond ((decide (i40 < (List.length d1.events:Int))))
  (M.bind (M.bind (M.idx d1.events i40) fun x43=>
  M.bind (M.det (r13_Good x43)) fun v45=>
  cond (!v45)
   (M.pure true)
   (M.bind (M.idx d1.events i40) fun x48=>
   cond (!decide (x48.dot.dev=dev2))
    (M.pure true)
    (cond (decide (0 < i40))
     (M.bind (M.idx d1.events (IntKind.i64.wrap (i40 - 1))) fun x52=>
     M.bind (M.idx d1.events i40) fun x54=>
     M.bind (M.det (r07_Cmp x52.dot x54.dot)) fun v56=>
     M.pure (decide (0 ≤ v56)))
     (M.pure false)))) (fun v42=>
  cond v42
   (M.pure (.done (.ret false)))
   (M.pure (.next (IntKind.i64.wrap (i40+1))))))
  (M.pure (.done (.brk ())))
def r27_push(d1:TDelta)(dev2:Int):M Bool:=
 M.bind (M.loop (r27_push_l0 d1 dev2) 0) (M.exk (fun _=>
 M.bind (cond ((decide ((List.length d1.from_:Int)=0)))
  (cond ((decide ((List.length d1.to_:Int)=0)))
   (cond ((decide (1 ≤ (List.length d1.events:Int))))
    (M.pure ((decide ((List.length d1.events:Int) ≤ 4))))
    (M.pure false))
   (M.pure false))
  (M.pure false)) (fun v59=>
 M.pure v59)))
def r27_touches_l0(l2:List TEvent)(c1:List TPart):Int → M (M.Step Int (M.Ex Unit Bool)):=fun i_16=>
 cond ((decide (i_16 < (List.length l2:Int))))
  (M.bind (M.idx l2 i_16) fun x18=>
  M.bind (M.det (r09_Has c1 x18.dot)) fun v20=>
  cond v20
   (M.pure (.done (.ret true)))
   (M.pure (.next (IntKind.i64.wrap (i_16+1)))))
  (M.pure (.done (.brk ())))
def r27_touches(c1:List TPart)(l2:List TEvent):M Bool:=
 M.bind (M.loop (r27_touches_l0 l2 c1) 0) (M.exk (fun _=>
 M.pure false))
def r27_none(d1:TDelta):M Bool:=
 M.bind (cond ((decide ((List.length d1.from_:Int)=0)))
  (cond ((decide ((List.length d1.to_:Int)=0)))
   (M.pure ((decide ((List.length d1.events:Int)=0))))
   (M.pure false))
  (M.pure false)) (fun v2=>
 M.pure v2)
def r27_Good(m1:TMsg):M Bool:=
 M.bind (cond (decide (m1.kind=1))
  (M.pure true)
  (M.pure (decide (m1.kind=2)))) (fun hello2=>
 M.bind (cond (decide (m1.kind < 1))
  (M.pure true)
  (cond (decide (9 < m1.kind))
   (M.pure true)
   (cond hello2
    (cond (decide (16 ≤ m1.slot))
     (M.pure true)
     (M.bind (M.det (r27_number m1.try_)) fun v9=>
     cond (!v9)
      (M.pure true)
      (cond (!hello2)
       (cond (!decide (m1.slot=0))
        (M.pure true)
        (M.pure (!decide (m1.try_=0))))
       (M.pure false))))
    (cond (!hello2)
     (cond (!decide (m1.slot=0))
      (M.pure true)
      (M.pure (!decide (m1.try_=0))))
     (M.pure false))))) (fun v4=>
 cond v4
  (M.pure false)
  (M.bind (cond (decide (m1.kind=1))
   (cond (!decide (m1.dev=0))
    (M.pure true)
    (cond (!decide (m1.epoch=0))
     (M.pure true)
     (cond (!decide (m1.kind=1))
      (cond (decide (m1.dev=0))
       (M.pure true)
       (M.bind (M.det (r27_number m1.epoch)) fun v23=>
       M.pure (!v23)))
      (M.pure false))))
   (cond (!decide (m1.kind=1))
    (cond (decide (m1.dev=0))
     (M.pure true)
     (M.bind (M.det (r27_number m1.epoch)) fun v27=>
     M.pure (!v27)))
    (M.pure false))) (fun v17=>
  cond v17
   (M.pure false)
   (M.bind (cond (decide (m1.kind=9))
    (cond (!decide (m1.why=1))
     (cond (!decide (m1.why=2))
      (M.pure true)
      (cond (!decide (m1.kind=9))
       (M.pure (!decide (m1.why=0)))
       (M.pure false)))
     (cond (!decide (m1.kind=9))
      (M.pure (!decide (m1.why=0)))
      (M.pure false)))
    (cond (!decide (m1.kind=9))
     (M.pure (!decide (m1.why=0)))
     (M.pure false))) (fun v30=>
   cond v30
    (M.pure false)
    (M.bind (cond (decide (m1.kind=3))
     (M.pure true)
     (cond (decide (5 ≤ m1.kind))
      (M.pure (decide (m1.kind ≤ 7)))
      (M.pure false))) (fun has38=>
    M.bind (cond (!has38)
     (cond ((!decide ((List.length m1.have_:Int)=0)))
      (M.pure true)
      (M.bind (M.det (r09_Good m1.have_)) fun v44=>
      cond (!v44)
       (M.pure true)
       (cond (decide (m1.kind=5))
        (M.bind (M.det (r09_Only m1.have_ m1.dev)) fun v48=>
        M.bind (M.det (r09_Same m1.have_ v48)) fun v50=>
        M.pure (!v50))
        (cond (decide (m1.kind=6))
         (M.bind (M.det (r09_Only m1.have_ m1.dev)) fun v53=>
         M.bind (M.det (r09_Same m1.have_ v53)) fun v55=>
         M.pure (!v55))
         (M.pure false)))))
     (M.bind (M.det (r09_Good m1.have_)) fun v57=>
     cond (!v57)
      (M.pure true)
      (cond (decide (m1.kind=5))
       (M.bind (M.det (r09_Only m1.have_ m1.dev)) fun v61=>
       M.bind (M.det (r09_Same m1.have_ v61)) fun v63=>
       M.pure (!v63))
       (cond (decide (m1.kind=6))
        (M.bind (M.det (r09_Only m1.have_ m1.dev)) fun v66=>
        M.bind (M.det (r09_Same m1.have_ v66)) fun v68=>
        M.pure (!v68))
        (M.pure false))))) (fun v41=>
    cond v41
     (M.pure false)
     (M.bind (cond (!decide (m1.kind=4))
      (cond ((!decide ((List.length m1.front:Int)=0)))
       (M.pure true)
       (M.bind (M.det (r09_Good m1.front)) fun v74=>
       cond (!v74)
        (M.pure true)
        (M.bind (M.det (r09_Within m1.front m1.delta.to_)) fun v77=>
        cond (!v77)
         (M.pure (decide (m1.kind=4)))
         (M.pure false))))
      (M.bind (M.det (r09_Good m1.front)) fun v80=>
      cond (!v80)
       (M.pure true)
       (M.bind (M.det (r09_Within m1.front m1.delta.to_)) fun v83=>
       cond (!v83)
        (M.pure (decide (m1.kind=4)))
        (M.pure false)))) (fun v71=>
     cond v71
      (M.pure false)
      (cond (decide (m1.kind=2))
       (M.bind (M.bind (M.det (r20_Good m1.delta)) fun v89=>
       cond v89
        (M.pure ((decide ((List.length m1.delta.from_:Int)=0))))
        (M.pure false)) (fun v88=>
       M.pure v88))
       (cond (decide (m1.kind=4))
        (M.bind (M.det (r20_Good m1.delta)) fun v93=>
        M.pure v93)
        (cond (decide (m1.kind=5))
         (M.bind (M.bind (M.det (r27_push m1.delta m1.dev)) fun v97=>
         cond v97
          (M.bind (M.det (r27_touches m1.have_ m1.delta.events)) fun v100=>
          M.pure (!v100))
          (M.pure false)) (fun v96=>
         M.pure v96))
         (M.bind (M.det (r27_none m1.delta)) fun v102=>
         M.pure v102)))))))))))))))
end Go.Ep
