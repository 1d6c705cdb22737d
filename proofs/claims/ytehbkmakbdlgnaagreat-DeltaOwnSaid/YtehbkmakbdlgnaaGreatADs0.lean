/- Side texts. -/
import Derived.WalkKit
import Derived.Laws.AppendOwnNone
set_option linter.unusedVariables false
set_option linter.unusedSimpArgs false
namespace Go.Ep
open Go.RowKit
inductive DV where
 | v (x:Value)
 | sl (l:List (List DV))
 | nw (N:Nat->Prop) (x:DV)
 | sp (N:Nat->Prop) (x:DV)
 | od (N:Nat->Prop) (x:DV)
 | rw(M:Nat->Prop) (e:TypeId) (k:Nat) (l:List (List Value))
instance:Inhabited DV:=⟨.v undef⟩
inductive PV where
 | junk
 | und
 | d (x:DV)
 | agg (cs:List PV)
 | tup (ps:List PV)
 | ref (id off:Nat)
 | row (id n:Nat)
 | rp (id i off k:Nat)
 | pc (id i n k:Nat)
 | ep (cs:List DV) (off:Nat)
 | mp (id:Nat)
 | md (ks:List IntKind) (ag:Bool) (m:List (List Int×List DV))
 | clo (f:FuncId) (cs:List (List DV))
 | pa (id off n:Nat)
 | sq (cs:List DV) (off:Nat)
instance:Inhabited PV:=⟨.junk⟩
inductive Ob where
 | cells (T:TypeId) (cs:List PV)
 | row (T:TypeId) (k:Nat) (l:List (List DV))
 | map (ks:List IntKind) (ag:Bool) (m:List (List Int×List DV)) (bs:List Nat) (ck:Nat)
 | iterO (mid:Nat) (bs:List Nat) (ck:Nat) (L:List Nat)
 | iterD (ks:List IntKind) (ag:Bool) (m:List (List Int×List DV)) (bs:List Nat) (ck:Nat) (L:List Nat)
 | pin (tgt:Nat) (x:Option (Nat×Nat))
 | mapP (ks:List IntKind) (m:List (List Int×Value)) (ov:Option (Nat×PV)) (bs:List Nat) (ck:Nat)
 | mapN (nl:Bool) (ks:List IntKind) (ag:Bool) (m:List (List Int×List DV)) (bs:List Nat) (ck:Nat)
 | mapH (nl:Bool) (ks:List IntKind) (ag:Bool) (m:List (List Int×List DV))
structure PState where
 n:Nat
 sl:List (Nat×PV)
 objs:List (Nat×Ob)
def xt : List (Nat×PV)->Nat->Option PV
 | [],_=>none
 | (k,p)::r,i=>bif Nat.beq k i then some p else xt r i
def PState.at(s:PState)(i:Nat):Option PV:=bif Nat.blt i s.n then xt s.sl i else none
theorem Zu{s:PState}{i:Nat}{p:PV}(h:s.at i=some p):i < s.n:=by
 unfold PState.at at h
 cases hb:Nat.blt i s.n with
 | true=>simpa[Nat.blt_eq] using hb
 | false=>simp[hb] at h
theorem xL{s:PState}{i:Nat}{p:PV}(h:s.at i=some p):xt s.sl i=some p:=by
 unfold PState.at at h
 cases hb:Nat.blt i s.n with
 | true=>simpa[hb] using h
 | false=>simp[hb] at h
theorem Zn{s:PState}{i:Nat}{p:PV}(hi:i < s.n)(h:xt s.sl i=some p):s.at i=some p:=by
 unfold PState.at
 have:Nat.blt i s.n=true:=by simpa[Nat.blt_eq] using hi
 simp[this,h]
theorem yC(k i:Nat)(p:PV)(r:List (Nat×PV)):xt ((k,p)::r) i=if k=i then some p else xt r i:=by
 show(bif Nat.beq k i then some p else xt r i)=_
 by_cases h:k=i
 ·subst h;simp
 ·have:Nat.beq k i=false:=by
   cases hb:Nat.beq k i with
   | false=>rfl
   | true=>exact absurd (Nat.eq_of_beq_eq_true hb) h
  rw[this,if_neg h];rfl
theorem Wy : ∀ {l:List (Nat×PV)} {i:Nat} {p:PV},xt l i=some p->(i,p)∈l
 | [],_,_,h=>by simp[xt] at h
 | (k,q)::r,i,p,h=>by
  rw[yC] at h
  by_cases hk:k=i
  ·subst hk;simp at h;subst h;simp
  ·rw[if_neg hk] at h;exact List.mem_cons_of_mem _ (Wy h)
def look : List (Nat×Ob)->Nat->Option Ob
 | [],_=>none
 | (k,o)::r,id=>if id=k then some o else look r id
def yD(id:Nat)(o:Ob):List (Nat×Ob)->List (Nat×Ob)
 | []=>[(id,o)]
 | (k,p)::r=>if id=k then (k,o)::r else if id < k then (id,o)::(k,p)::r else (k,p)::yD id o r
def vB(id:Nat):List (Nat×Ob)->List (Nat×Ob)
 | []=>[]
 | (k,p)::r=>if id=k then vB id r else (k,p)::vB id r
theorem zD(id:Nat)(o:Ob)(j:Nat):∀ l,look (yD id o l) j=if j=id then some o else look l j
 | []=>by simp[yD,look]
 | (k,p)::r=>by
  unfold yD
  by_cases h:id=k
  ·subst h;simp only[if_true,look]
   by_cases hj:j=id <;> simp[hj]
  ·by_cases h2:id < k
   ·simp only[h,h2,if_true,if_false,look]
   ·simp only[h,h2,if_false,look,zD id o j r]
    by_cases hj:j=k
    ·subst hj;simp[Ne.symm h]
    ·simp[hj]
theorem yJ(id j:Nat):∀ l,look (vB id l) j=if j=id then none else look l j
 | []=>by simp[vB,look]
 | (k,p)::r=>by
  unfold vB
  by_cases h:id=k
  ·subst h;simp only[if_true,look,yJ id j r]
   by_cases hj:j=id <;> simp[hj]
  ·simp only[h,if_false,look,yJ id j r]
   by_cases hj:j=k
   ·subst hj;simp[Ne.symm h]
   ·simp[hj]
def PState.put(s:PState)(d:Nat)(p:PV):PState:={ s with sl:=(d,p)::s.sl }
theorem Jm(s:PState)(d:Nat)(p:PV)(i:Nat)(q:PV)(h:(s.put d p).at i=some q):(d=i/\q=p)\/(d≠i/\s.at i=some q):=by
 have hlt:=Zu h;have hg:=xL h;simp only[PState.put,yC] at hg
 by_cases hd:d=i
 ·rw[if_pos hd] at hg;exact .inl ⟨hd,by simpa using hg.symm⟩
 ·rw[if_neg hd] at hg;exact .inr ⟨hd,Zn hlt hg⟩
def PState.putD(s:PState)(d:Option Nat)(p:PV):PState:=match d with | some d=>s.put d p | none=>s
def PState.ev(s:PState):Operand->Option PV
 | .tmp t=>s.at t
 | .const (.tuple _)=>none
 | .const (.agg _)=>none
 | .const v=>some (.d (.v v))
 | .func f=>some (.d (.v (.func (.func f) #[] #[])))
 | .global _=>none
abbrev zb:=Nat->Option (Nat×Nat)
inductive DRd0 (w:World) (z:Bool) (S:Nat->Prop):DV->Value->Prop
 | v (x:Value) (h:x.oneCell'=true):DRd0 w z S (.v x) x
 | nil (a:Option Addr) (cap:Nat) (hc:cap<=maxLen) (hn:a=none->cap=0):DRd0 w z S (.sl []) (.slice a 0 cap)
 | sl (l:List (List DV)) (b off cap k:Nat) (c:Nat->Nat->Value) (hl:l.length<=cap) (hcap:cap<=maxLen) (hS:S b) (hb:b < w.heap.size) (hz:z=true->∃ (cur:Array Value) (T:TypeId),w.heap[b]?=some (.cells cur T (0,0)))
   (hk:∀ (i:Nat) (cs:List DV),l[i]?=some cs->cs.length=k)
   (hc:∀ i j,i < l.length->j < k->w.cell? ⟨b,off+(i*k+j),none⟩=some (c i j))
   (hr:∀ (i:Nat) (cs:List DV) (j:Nat) (x:DV),l[i]?=some cs->cs[j]?=some x->DRd0 w z S x (c i j)):DRd0 w z S (.sl l) (.slice (some ⟨b,off,none⟩) l.length cap)
def yV(w w':World)(S:Nat->Prop):Prop:=w.heap.size<=w'.heap.size/\∀ b,S b->b < w.heap.size->w'.heap[b]?=w.heap[b]?
theorem DRd0.keep{w w':World}{z:Bool}{S S':Nat->Prop}(hk:yV w w' S)(hS:∀ b,S b->b < w.heap.size->S' b){x:DV}{u:Value}(h:DRd0 w z S x u):DRd0 w' z S' x u:=by
 induction h with
 | v x h=>exact .v x h
 | nil a cap hc hn=>exact .nil a cap hc hn
 | sl l b off cap k c hl hcap hs hb hz hkk hc hr ih=>
  exact .sl l b off cap k c hl hcap (hS b hs hb) (Nat.lt_of_lt_of_le hb hk.1) (fun h=>by rw[hk.2 b hs hb];exact hz h) hkk
   (fun i j hi hj=>by rw[World.cell?_of_block (w:=w) (hk.2 b hs hb)];exact hc i j hi hj) ih
theorem DRd0.one{w:World}{z:Bool}{S:Nat->Prop}{x:DV}{u:Value}(h:DRd0 w z S x u):u.oneCell'=true:=by
 cases h with
 | v _ h=>exact h
 | nil=>rfl
 | sl=>rfl
inductive Shp : DV->DV->Prop
 | eq (x:DV):Shp x x
 | int (k:IntKind) (a b:Int):Shp (.v (.int k a)) (.v (.int k b))
 | str (a b:ByteArray):Shp (.v (.string a)) (.v (.string b))
 | sl (l l':List (List DV)) (hl:l.length=l'.length) (hk:∀ (i:Nat) (cs cs':List DV),l[i]?=some cs->l'[i]?=some cs'->cs.length=cs'.length)
   (h:∀ (i j:Nat) (cs cs':List DV) (x x':DV),l[i]?=some cs->l'[i]?=some cs'->cs[j]?=some x->cs'[j]?=some x'->Shp x x'):Shp (.sl l) (.sl l')
inductive DRd (w:World) (S:Nat->Prop):DV->Value->Prop
 | v (x:Value) (h:x.oneCell'=true):DRd w S (.v x) x
 | nil (a:Option Addr) (cap:Nat) (hc:cap<=maxLen) (hn:a=none->cap=0):DRd w S (.sl []) (.slice a 0 cap)
 | sl (l:List (List DV)) (b off cap k:Nat) (c:Nat->Nat->Value) (hl:l.length<=cap) (hcap:cap<=maxLen) (hS:S b) (hb:b < w.heap.size)
   (hk:∀ (i:Nat) (cs:List DV),l[i]?=some cs->cs.length=k)
   (hc:∀ i j,i < l.length->j < k->w.cell? ⟨b,off+(i*k+j),none⟩=some (c i j))
   (hr:∀ (i:Nat) (cs:List DV) (j:Nat) (x:DV),l[i]?=some cs->cs[j]?=some x->DRd w S x (c i j)):DRd w S (.sl l) (.slice (some ⟨b,off,none⟩) l.length cap)
 | nw (N:Nat->Prop) (x:DV) (u:Value) (h:DRd0 w true (fun b=>S b/\N b) x u):DRd w S (.nw N x) u
 | sp (N:Nat->Prop) (x x':DV) (u:Value) (hs:Shp x x') (h:DRd0 w true (fun b=>S b/\N b) x' u):DRd w S (.sp N x) u
 | od (N:Nat->Prop) (x:DV) (u:Value) (h:DRd0 w false (fun b=>S b/\N b) x u):DRd w S (.od N x) u
 | rwNil (M:Nat->Prop) (e:TypeId) (k:Nat) (hM:∀ b,¬ M b):DRd w S (.rw M e k []) (.slice none 0 0)
 | rw(M:Nat->Prop) (e:TypeId) (k:Nat) (l:List (List Value)) (blk cap:Nat) (cur:List Value) (hS:S blk) (hM:M blk) (hb:blk < w.heap.size) (hh:w.heap[blk]?=some (.cells cur.toArray e (0,0))) (hlc:l.length<=cap) (hcap:cap<=maxLen) (hcs:cur.length=cap*k)
   (hk:∀ (i:Nat) (cs:List Value),l[i]?=some cs->cs.length=k) (hr:∀ (i:Nat) (cs:List Value) (j:Nat) (x:Value),l[i]?=some cs->cs[j]?=some x->cur[i*k+j]?=some x/\x.oneCell'=true):DRd w S (.rw M e k l) (.slice (some ⟨blk,0,none⟩) l.length cap)
theorem DRd0.up{w:World}{z:Bool}{S:Nat->Prop}{x:DV}{u:Value}(h:DRd0 w z S x u):DRd w S x u:=by
 induction h with
 | v x h=>exact .v x h
 | nil a cap hc hn=>exact .nil a cap hc hn
 | sl l b off cap k c hl hcap hs hb hz hkk hc hr ih=>exact .sl l b off cap k c hl hcap hs hb hkk hc ih
theorem DRd.one{w:World}{S:Nat->Prop}{x:DV}{u:Value}(h:DRd w S x u):u.oneCell'=true:=by
 cases h with
 | v _ h=>exact h
 | nil=>rfl
 | sl=>rfl
 | nw _ _ _ h=>exact h.one
 | sp _ _ _ _ _ h=>exact h.one
 | od _ _ _ h=>exact h.one
 | rwNil=>rfl
 | rw=>rfl
theorem DRd.keep{w w':World}{S S':Nat->Prop}(hk:yV w w' S)(hS:∀ b,S b->b < w.heap.size->S' b){x:DV}{u:Value}(h:DRd w S x u):DRd w' S' x u:=by
 induction h with
 | v x h=>exact .v x h
 | nil a cap hc hn=>exact .nil a cap hc hn
 | sl l b off cap k c hl hcap hs hb hkk hc hr ih=>
  exact .sl l b off cap k c hl hcap (hS b hs hb) (Nat.lt_of_lt_of_le hb hk.1) hkk
   (fun i j hi hj=>by rw[World.cell?_of_block (w:=w) (hk.2 b hs hb)];exact hc i j hi hj) ih
 | nw N x u h=>exact .nw N x u (h.keep ⟨hk.1,fun b hb hlt=>hk.2 b hb.1 hlt⟩ (fun b hb hlt=>⟨hS b hb.1 hlt,hb.2⟩))
 | od N x u h=>exact .od N x u (h.keep ⟨hk.1,fun b hb hlt=>hk.2 b hb.1 hlt⟩ (fun b hb hlt=>⟨hS b hb.1 hlt,hb.2⟩))
 | rwNil M e k hM=>exact .rwNil M e k hM
 | rw M e k l blk cap cur hs hM hb hh hlc hcap hcs hkk hr=>exact .rw M e k l blk cap cur (hS blk hs hb) hM (Nat.lt_of_lt_of_le hb hk.1) (by rw[hk.2 blk hs hb];exact hh) hlc hcap hcs hkk hr
 | sp N x x' u hs h=>exact .sp N x x' u hs (h.keep ⟨hk.1,fun b hb hlt=>hk.2 b hb.1 hlt⟩ (fun b hb hlt=>⟨hS b hb.1 hlt,hb.2⟩))
def uq : List IntKind->List Int->Value
 | [k],[n]=>.int k n
 | ks,ns=>.agg (List.zipWith Value.int ks ns).toArray
def elV(ag:Bool)(us:List Value):Value:=if ag then .agg us.toArray else us.headD undef
structure MapRd(w:World)(S:Nat->Prop)(ks:List IntKind)(ag:Bool)(m:List (List Int×List DV))(bs:List Nat)(ck:Nat)(es:Array MapEntry):Prop where
 size:es.size=m.length
 stamps:bs=es.toList.map (·.born)
 below:∀ b∈bs,b < ck
 nodup:bs.Nodup
 ent:∀ (i:Nat) (ns:List Int) (cs:List DV),m[i]?=some (ns,cs)->∃ e us,es[i]?=some e/\e.key=uq ks ns/\e.val=elV ag us/\us.length=cs.length/\(ag=false->cs.length=1)/\(∀ u∈us,u.oneCell'=true)/\ns.length=ks.length /\
  ∀ (j:Nat) (x:DV) (u:Value),cs[j]?=some x->us[j]?=some u->DRd w S x u
theorem MapRd.keep{w w':World}{S S':Nat->Prop}(hk:yV w w' S)(hS:∀ b,S b->b < w.heap.size->S' b){ks:List IntKind}{ag:Bool}{m:List (List Int×List DV)}{bs:List Nat}{ck:Nat}{es:Array MapEntry}(h:MapRd w S ks ag m bs ck es):MapRd w' S' ks ag m bs ck es:=
 ⟨h.size,h.stamps,h.below,h.nodup,fun i ns cs hi=>let ⟨e,us,h1,h2,h3,h4,h5,h7,h8,h6⟩:=h.ent i ns cs hi;⟨e,us,h1,h2,h3,h4,h5,h7,h8,fun j x u hx hu=>(h6 j x u hx hu).keep hk hS⟩⟩
def EpRd(w:World)(S:Nat->Prop)(ds:List DV)(u:Value):Prop:=
 ∃ (b off:Nat) (c:Nat->Value),u=.pointer (some ⟨b,off,none⟩)/\S b/\b < w.heap.size/\(∀ j,j < ds.length->w.cell? ⟨b,off+j,none⟩=some (c j))/\∀ (j:Nat) (x:DV),ds[j]?=some x->DRd w S x (c j)
theorem EpRd.keep{w w':World}{S S':Nat->Prop}(hk:yV w w' S)(hS:∀ b,S b->b < w.heap.size->S' b){ds:List DV}{u:Value}(h:EpRd w S ds u):EpRd w' S' ds u:=
 let ⟨b,off,c,h1,h2,h3,h4,h5⟩:=h
 ⟨b,off,c,h1,hS b h2 h3,Nat.lt_of_lt_of_le h3 hk.1,fun j hj=>by rw[World.cell?_of_block (w:=w) (hk.2 b h2 h3)];exact h4 j hj,fun j x hx=>(h5 j x hx).keep hk hS⟩
inductive Rd (w:World) (g:zb) (S:Nat->Prop):PV->Value->Prop
 | junk (u:Value):Rd w g S .junk u
 | und:Rd w g S .und undef
 | d {x:DV} {u:Value} (h:DRd w S x u):Rd w g S (.d x) u
 | agg (cs:List PV) (us:List Value) (hl:cs.length=us.length) (h:∀ (i:Nat) (p:PV) (u:Value),cs[i]?=some p->us[i]?=some u->Rd w g S p u) (h1:∀ u∈us,u.oneCell'=true):Rd w g S (.agg cs) (.agg us.toArray)
 | tup (cs:List PV) (us:List Value) (hl:cs.length=us.length) (h:∀ (i:Nat) (p:PV) (u:Value),cs[i]?=some p->us[i]?=some u->Rd w g S p u):Rd w g S (.tup cs) (.tuple us.toArray)
 | ref (id off blk n:Nat) (h:g id=some (blk,n)):Rd w g S (.ref id off) (.pointer (some ⟨blk,off,none⟩))
 | row (id n blk cap:Nat) (h:g id=some (blk,cap)):Rd w g S (.row id n) (.slice (some ⟨blk,0,none⟩) n cap)
 | rowNil (id:Nat) (h:g id=none):Rd w g S (.row id 0) (.slice none 0 0)
 | rp (id i off k blk cap:Nat) (h:g id=some (blk,cap)):Rd w g S (.rp id i off k) (.pointer (some ⟨blk,i*k+off,none⟩))
 | pc (id i n k blk cap:Nat) (h:g id=some (blk,cap)) (hi:i+n<=cap):Rd w g S (.pc id i n k) (.slice (some ⟨blk,i*k,none⟩) n (cap - i))
 | pc0 (id i k:Nat) (a:Option Addr) (c:Nat):Rd w g S (.pc id i 0 k) (.slice a 0 c)
 | ep (cs:List DV) (b off o:Nat) (c:Nat->Value) (hS:S b) (hb:b < w.heap.size)
   (hc:∀ j,j < cs.length->w.cell? ⟨b,off+j,none⟩=some (c j))
   (hr:∀ (j:Nat) (x:DV),cs[j]?=some x->DRd w S x (c j)):Rd w g S (.ep cs o) (.pointer (some ⟨b,off+o,none⟩))
 | mp (id blk n:Nat) (h:g id=some (blk,n)):Rd w g S (.mp id) (.map (some blk))
 | mpNil (id:Nat) (h:g id=none):Rd w g S (.mp id) (.map none)
 | md (ks:List IntKind) (ag:Bool) (m:List (List Int×List DV)) (bs:List Nat) (ck b:Nat) (es:Array MapEntry) (hS:S b) (hb:b < w.heap.size) (hh:w.heap[b]?=some (.map es ck)) (hm:MapRd w S ks ag m bs ck es):Rd w g S (.md ks ag m) (.map (some b))
 | mdNil (ks:List IntKind) (ag:Bool):Rd w g S (.md ks ag []) (.map none)
 | clo (f:FuncId) (cs:List (List DV)) (us:List Value) (hl:cs.length=us.length) (h:∀ (i:Nat) (ds:List DV) (u:Value),cs[i]?=some ds->us[i]?=some u->EpRd w S ds u):Rd w g S (.clo f cs) (.func (.func f) #[] us.toArray)
 | pa (id off n blk c:Nat) (h:g id=some (blk,c)):Rd w g S (.pa id off n) (.slice (some ⟨blk,off,none⟩) n n)
 | sq (cs:List DV) (b off o:Nat) (c:Nat->Value) (hS:S b) (hb:b < w.heap.size) (hz:∃ (cur:Array Value) (T:TypeId),w.heap[b]?=some (.cells cur T (0,0)))
   (hc:∀ j,j < cs.length->w.cell? ⟨b,off+j,none⟩=some (c j))
   (hr:∀ (j:Nat) (x:DV),cs[j]?=some x->∃ x',Shp x x'/\DRd0 w true S x' (c j)):Rd w g S (.sq cs o) (.pointer (some ⟨b,off+o,none⟩))
def PV.has(id:Nat):PV->Bool
 | .ref i _ | .row i _ | .rp i _ _ _ | .pc i _ _ _ | .mp i | .pa i _ _=>i==id
 | .agg cs=>hasL id cs
 | .tup cs=>hasL id cs
 | _=>false
where hasL (id:Nat):List PV->Bool
 | []=>false
 | c::r=>c.has id||hasL id r
theorem Ui{id:Nat}:∀ {cs:List PV} {i:Nat} {p:PV},PV.has.hasL id cs=false->cs[i]?=some p->p.has id=false
 | [],i,p,_,h=>by simp at h
 | c::r,0,p,hh,h=>by simp at h;subst h;simp[PV.has.hasL] at hh;exact hh.1
 | c::r,i+1,p,hh,h=>by simp at h;simp[PV.has.hasL] at hh;exact Ui hh.2 h
def PV.isCell : PV->Bool
 | .d _ | .ref .. | .row .. | .rp .. | .pc .. | .ep .. | .mp .. | .md .. | .pa ..=>true
 | _=>false
theorem Rd.one{w:World}{g:zb}{S:Nat->Prop}{p:PV}{u:Value}(h:Rd w g S p u)(hp:p.isCell=true):u.oneCell'=true:=by
 cases h <;> first | rfl | (simp[PV.isCell] at hp;done) | skip
 case d h=>exact h.one
theorem Rd.keep{w w':World}{g g':zb}{S S':Nat->Prop}(hk:yV w w' S)(hS:∀ b,S b->b < w.heap.size->S' b){p:PV}{u:Value}(h:Rd w g S p u)
  (hg:∀ id,p.has id=true->g' id=g id):Rd w' g' S' p u:=by
 induction h with
 | junk u=>exact .junk u
 | und=>exact .und
 | d h=>exact .d (h.keep hk hS)
 | agg cs us hl h h1 ih=>
  refine .agg cs us hl (fun i p u hp hu=>ih i p u hp hu (fun id hid=>hg id ?_)) h1
  cases hh:PV.has id (.agg cs) with
  | true=>rfl
  | false=>rw[Ui (by simpa[PV.has] using hh) hp] at hid;cases hid
 | tup cs us hl h ih=>
  refine .tup cs us hl (fun i p u hp hu=>ih i p u hp hu (fun id hid=>hg id ?_))
  cases hh:PV.has id (.tup cs) with
  | true=>rfl
  | false=>rw[Ui (by simpa[PV.has] using hh) hp] at hid;cases hid
 | ref id off blk n h=>exact .ref id off blk n (by rw[hg id (by simp[PV.has])];exact h)
 | row id n blk cap h=>exact .row id n blk cap (by rw[hg id (by simp[PV.has])];exact h)
 | rowNil id h=>exact .rowNil id (by rw[hg id (by simp[PV.has])];exact h)
 | rp id i off k blk cap h=>exact .rp id i off k blk cap (by rw[hg id (by simp[PV.has])];exact h)
 | pc id i n k blk cap h hi=>exact .pc id i n k blk cap (by rw[hg id (by simp[PV.has])];exact h) hi
 | pc0 id i k a c=>exact .pc0 id i k a c
 | ep cs b off o c hs hb hc hr=>
  exact .ep cs b off o c (hS b hs hb) (Nat.lt_of_lt_of_le hb hk.1)
   (fun j hj=>by rw[World.cell?_of_block (w:=w) (hk.2 b hs hb)];exact hc j hj) (fun j x h2=>(hr j x h2).keep hk hS)
 | sq cs b off o c hs hb hz hc hr=>
  exact .sq cs b off o c (hS b hs hb) (Nat.lt_of_lt_of_le hb hk.1) (by rw[hk.2 b hs hb];exact hz)
   (fun j hj=>by rw[World.cell?_of_block (w:=w) (hk.2 b hs hb)];exact hc j hj) (fun j x h2=>let ⟨x',h3,h4⟩:=hr j x h2;⟨x',h3,h4.keep hk hS⟩)
 | mp id blk n h=>exact .mp id blk n (by rw[hg id (by simp[PV.has])];exact h)
 | mpNil id h=>exact .mpNil id (by rw[hg id (by simp[PV.has])];exact h)
 | md ks ag m bs ck b es hs hb hh hm=>exact .md ks ag m bs ck b es (hS b hs hb) (Nat.lt_of_lt_of_le hb hk.1) (by rw[hk.2 b hs hb];exact hh) (hm.keep hk hS)
 | mdNil ks ag=>exact .mdNil ks ag
 | pa id off n blk c h=>exact .pa id off n blk c (by rw[hg id (by simp[PV.has])];exact h)
 | clo f cs us hl h=>exact .clo f cs us hl fun i ds u h1 h2=>(h i ds u h1 h2).keep hk hS
inductive ObRd (w:World) (g:zb) (S:Nat->Prop) (id:Nat):Ob->Prop
 | cells (T:TypeId) (cs:List PV) (blk n:Nat) (us:List Value) (h:g id=some (blk,n)) (hh:w.heap[blk]?=some (.cells us.toArray T (0,0))) (hl:cs.length=us.length)
   (hr:∀ (i:Nat) (p:PV) (u:Value),cs[i]?=some p->us[i]?=some u->Rd w g S p u) (h1:∀ u∈us,u.oneCell'=true):ObRd w g S id (.cells T cs)
 | rowNil (T:TypeId) (k:Nat) (h:g id=none):ObRd w g S id (.row T k [])
 | row (T:TypeId) (k:Nat) (l:List (List DV)) (blk cap:Nat) (cur:List Value) (h:g id=some (blk,cap)) (hh:w.heap[blk]?=some (.cells cur.toArray T (0,0)))
   (hlc:l.length<=cap) (hcap:cap<=maxLen) (hcs:cur.length=cap*k) (hk:∀ (i:Nat) (cs:List DV),l[i]?=some cs->cs.length=k)
   (hr:∀ (i:Nat) (cs:List DV) (j:Nat) (x:DV),l[i]?=some cs->cs[j]?=some x->∃ u,cur[i*k+j]?=some u/\DRd w S x u):ObRd w g S id (.row T k l)
 | map (ks:List IntKind) (ag:Bool) (m:List (List Int×List DV)) (bs:List Nat) (ck blk n:Nat) (es:Array MapEntry) (h:g id=some (blk,n)) (hh:w.heap[blk]?=some (.map es ck)) (hm:MapRd w S ks ag m bs ck es):ObRd w g S id (.map ks ag m bs ck)
 | iterO (mid:Nat) (bs:List Nat) (ck:Nat) (L:List Nat) (blk n b n':Nat) (h:g id=some (blk,n)) (hh:w.heap[blk]?=some (.mapIter (some b) ck (L.map fun i=>bs.getD i 0).toArray ck)) (hm:g mid=some (b,n')):ObRd w g S id (.iterO mid bs ck L)
 | iterON (mid:Nat) (ck blk n:Nat) (h:g id=some (blk,n)) (hh:w.heap[blk]?=some (.mapIter none 0 #[] 0)) (hm:g mid=none):ObRd w g S id (.iterO mid [] ck [])
 | iterD (ks:List IntKind) (ag:Bool) (m:List (List Int×List DV)) (bs:List Nat) (ck:Nat) (L:List Nat) (blk n b:Nat) (es:Array MapEntry) (h:g id=some (blk,n)) (hh:w.heap[blk]?=some (.mapIter (some b) ck (L.map fun i=>bs.getD i 0).toArray ck))
   (hS:S b) (hb:b < w.heap.size) (hb2:w.heap[b]?=some (.map es ck)) (hm:MapRd w S ks ag m bs ck es):ObRd w g S id (.iterD ks ag m bs ck L)
 | iterN (ks:List IntKind) (ag:Bool) (blk n:Nat) (h:g id=some (blk,n)) (hh:w.heap[blk]?=some (.mapIter none 0 #[] 0)):ObRd w g S id (.iterD ks ag [] [] 0 [])
 | pin (tgt:Nat) (x:Option (Nat×Nat)) (h:g id=none) (ht:g tgt=x):ObRd w g S id (.pin tgt x)
 | mapP (ks:List IntKind) (m:List (List Int×Value)) (ov:Option (Nat×PV)) (bs:List Nat) (ck blk n:Nat) (es:Array MapEntry) (h:g id=some (blk,n)) (hh:w.heap[blk]?=some (.map es ck)) (hsz:es.size=m.length) (hst:bs=es.toList.map (·.born)) (hbl:∀ b∈bs,b < ck) (hnd:bs.Nodup)
   (hent:∀ (i:Nat) (ns:List Int) (u:Value),m[i]?=some (ns,u)->∃ e,es[i]?=some e/\e.key=uq ks ns/\ns.length=ks.length/\e.val.oneCell'=true/\((∀ p,ov≠some (i,p))->e.val=u))
   (hov:∀ (j:Nat) (p:PV),ov=some (j,p)->∃ e,es[j]?=some e/\Rd w g S p e.val):ObRd w g S id (.mapP ks m ov bs ck)
 | mapNil (ks:List IntKind) (ag:Bool) (ck:Nat) (h:g id=none):ObRd w g S id (.mapN true ks ag [] [] ck)
 | mapN (ks:List IntKind) (ag:Bool) (m:List (List Int×List DV)) (bs:List Nat) (ck blk n:Nat) (es:Array MapEntry) (h:g id=some (blk,n)) (hh:w.heap[blk]?=some (.map es ck)) (hm:MapRd w S ks ag m bs ck es):ObRd w g S id (.mapN false ks ag m bs ck)
 | mapHNil (ks:List IntKind) (ag:Bool) (h:g id=none):ObRd w g S id (.mapH true ks ag [])
 | mapH (ks:List IntKind) (ag:Bool) (m:List (List Int×List DV)) (bs:List Nat) (ck blk n:Nat) (es:Array MapEntry) (h:g id=some (blk,n)) (hh:w.heap[blk]?=some (.map es ck)) (hm:MapRd w S ks ag m bs ck es):ObRd w g S id (.mapH false ks ag m)
def Ob.has(id:Nat):Ob->Bool
 | .mapN ..=>false
 | .mapH ..=>false
 | .cells _ cs=>PV.has.hasL id cs
 | .row ..=>false
 | .map ..=>false
 | .iterO mid _ _ _=>mid==id
 | .iterD ..=>false
 | .pin tgt _=>tgt==id
 | .mapP _ _ ov _ _=>match ov with | some (_,p)=>p.has id | none=>false
theorem ObRd.keep{w w':World}{g g':zb}{S S':Nat->Prop}(hk:yV w w' S)(hS:∀ b,S b->b < w.heap.size->S' b){id:Nat}{o:Ob}(h:ObRd w g S id o)
  (hown:∀ b n,g id=some (b,n)->w'.heap[b]?=w.heap[b]?) (hid:g' id=g id) (hg:∀ j,o.has j=true->g' j=g j):ObRd w' g' S' id o:=by
 cases h with
 | cells T cs blk n us h hh hl hr h1=>
  refine .cells T cs blk n us (by rw[hid];exact h) (by rw[hown blk n h];exact hh) hl (fun i p u hp hu=>(hr i p u hp hu).keep hk hS (fun j hj=>hg j ?_)) h1
  cases hh:PV.has.hasL j cs with
  | true=>simpa[Ob.has] using hh
  | false=>rw[Ui hh hp] at hj;cases hj
 | rowNil T k h=>exact .rowNil T k (by rw[hid];exact h)
 | row T k l blk cap cur h hh hlc hcap hcs hkk hr=>
  exact .row T k l blk cap cur (by rw[hid];exact h) (by rw[hown blk cap h];exact hh) hlc hcap hcs hkk
   (fun i cs j x h1 h2=>let ⟨u,hu,hd⟩:=hr i cs j x h1 h2;⟨u,hu,hd.keep hk hS⟩)
 | map ks ag m bs ck blk n es h hh hm=>exact .map ks ag m bs ck blk n es (by rw[hid];exact h) (by rw[hown blk n h];exact hh) (hm.keep hk hS)
 | iterO mid bs ck L blk n b n' h hh hm=>exact .iterO mid bs ck L blk n b n' (by rw[hid];exact h) (by rw[hown blk n h];exact hh) (by rw[hg mid (by simp[Ob.has])];exact hm)
 | iterON mid ck blk n h hh hm=>exact .iterON mid ck blk n (by rw[hid];exact h) (by rw[hown blk n h];exact hh) (by rw[hg mid (by simp[Ob.has])];exact hm)
 | iterD ks ag m bs ck L blk n b es h hh hs hb hb2 hm=>exact .iterD ks ag m bs ck L blk n b es (by rw[hid];exact h) (by rw[hown blk n h];exact hh) (hS b hs hb) (Nat.lt_of_lt_of_le hb hk.1) (by rw[hk.2 b hs hb];exact hb2) (hm.keep hk hS)
 | iterN ks ag blk n h hh=>exact .iterN ks ag blk n (by rw[hid];exact h) (by rw[hown blk n h];exact hh)
 | pin tgt x h ht=>exact .pin tgt x (by rw[hid];exact h) (by rw[hg tgt (by simp[Ob.has])];exact ht)
 | mapNil ks ag ck h=>exact .mapNil ks ag ck (by rw[hid];exact h)
 | mapN ks ag m bs ck blk n es h hh hm=>exact .mapN ks ag m bs ck blk n es (by rw[hid];exact h) (by rw[hown blk n h];exact hh) (hm.keep hk hS)
 | mapHNil ks ag h=>exact .mapHNil ks ag (by rw[hid];exact h)
 | mapH ks ag m bs ck blk n es h hh hm=>exact .mapH ks ag m bs ck blk n es (by rw[hid];exact h) (by rw[hown blk n h];exact hh) (hm.keep hk hS)
 | mapP ks m ov bs ck blk n es h hh hsz hst hbl hnd hent hov=>
  refine .mapP ks m ov bs ck blk n es (by rw[hid];exact h) (by rw[hown blk n h];exact hh) hsz hst hbl hnd hent fun j p hj=>?_
  obtain⟨e,h1,h2⟩:=hov j p hj;subst hj;exact⟨e,h1,h2.keep hk hS fun i hi=>hg i hi⟩
structure Ctx where
 w0:World
 S:Nat->Prop
 K:Nat->Prop
def zk(ctx:Ctx)(g:zb)(objs:List (Nat×Ob))(b:Nat):Prop:=(ctx.S b\/ctx.w0.heap.size<=b)/\∀ id o n,look objs id=some o->g id=some (b,n)->False
structure RelG(ctx:Ctx)(g:zb)(s:PState)(a:Act)(w:World):Prop where
 defers:a.defers=[]
 size:a.tmps.size=s.n
 slots:∀ i p,s.at i=some p->Rd w g (zk ctx g s.objs) p (a.tmps.getD i undef)
 objs:∀ id o,look s.objs id=some o->ObRd w g (zk ctx g s.objs) id o
 inj:∀ i j oi oj b n m,look s.objs i=some oi->look s.objs j=some oj->g i=some (b,n)->g j=some (b,m)->i=j
 own:∀ id o b n,look s.objs id=some o->g id=some (b,n)->b < w.heap.size/\(ctx.w0.heap.size<=b\/ctx.K b)
 os:w.os=ctx.w0.os
 tape:w.tape=ctx.w0.tape
 output:w.output=ctx.w0.output
 grows:ctx.w0.heap.size<=w.heap.size
 keep:∀ k,k < ctx.w0.heap.size->¬ ctx.K k->w.heap[k]?=ctx.w0.heap[k]?
def Rel(ctx:Ctx)(s:PState)(a:Act)(w:World):Prop:=∃ g,RelG ctx g s a w
theorem RelG.ev{ctx:Ctx}{g:zb}{s:PState}{a:Act}{w:World}(h:RelG ctx g s a w){x:Operand}{p:PV}(hx:s.ev x=some p):Rd w g (zk ctx g s.objs) p (a.eval x):=by
 cases x with
 | tmp t=>exact h.slots t p hx
 | const v=>
  cases v <;> simp[PState.ev] at hx <;> subst hx <;> exact .d (.v _ rfl)
 | func f=>
  simp[PState.ev] at hx;subst hx;exact .d (.v _ rfl)
 | global g=>simp[PState.ev] at hx
theorem wCa(a:Act)(d:Option Nat)(v:Value):(a.put d v).defers=a.defers:=by cases d <;> rfl
theorem put_size(a:Act)(d:Option Nat)(v:Value):(a.put d v).tmps.size=a.tmps.size:=by cases d <;> simp[Act.put]
theorem yl(s:PState)(d:Option Nat)(p:PV):(s.putD d p).objs=s.objs:=by cases d <;> rfl
theorem uG(s:PState)(d:Option Nat)(p:PV):(s.putD d p).n=s.n:=by cases d <;> rfl
theorem RelG.put{ctx:Ctx}{g:zb}{s:PState}{a:Act}{w:World}(h:RelG ctx g s a w)(d:Option Nat){p:PV}{v:Value}(hp:Rd w g (zk ctx g s.objs) p v):RelG ctx g (s.putD d p) (a.put d v) w:=by
 refine⟨by rw[wCa];exact h.defers,by rw[put_size,uG];exact h.size,?_,by rw[yl];exact h.objs,by rw[yl];exact h.inj,by rw[yl];exact h.own,h.os,h.tape,h.output,h.grows,h.keep⟩;intro i q hq;rw[yl]
 cases d with
 | none=>exact h.slots i q hq
 | some d=>
  rcases Jm s d p i q hq with⟨hd,rfl⟩ | ⟨hd,h2⟩
  ·subst hd;have hlt:d < a.tmps.size:=by rw[h.size];exact Zu (s:=s.put d q) hq
   simp[Act.put,Array.getD,hlt,hp]
  ·have:=h.slots i q h2;have e:((a.put (some d) v).tmps.getD i undef)=a.tmps.getD i undef:=by
    simp[Act.put,Array.getD_eq_getD_getElem?,hd]
   rw[e];exact this
end Go.Ep
namespace Go.Ep
open Go.RowKit
abbrev PQ:=Exit->PState->Prop
def lift(ctx:Ctx)(Q:PQ):Exit->Act->World->Prop:=fun e a w=>∃ s,Q e s/\Rel ctx s a w
def PWc(P:Program)(ctx:Ctx)(c:Code)(Q:PQ)(s:PState):Prop:=∀ a w,Rel ctx s a w->c.wp P (lift ctx Q) a w
def PWl(P:Program)(ctx:Ctx)(ops:Array Oper)(Q:PQ)(l:List Oper)(s:PState):Prop:=∀ a w,Rel ctx s a w->wpList P ops (lift ctx Q) l a w
def Then(K:PState->Prop)(Q:PQ):PQ
 | .normal,s=>K s
 | e,s=>Q e s
def InBlk(id:Nat)(Q:PQ):PQ
 | .exit id',s=>if id'=id then Q .normal s else Q (.exit id') s
 | e,s=>Q e s
def Sub(ctx:Ctx)(s t:PState):Prop:=∀ a w,Rel ctx s a w->Rel ctx t a w
theorem Rd.of_v{w:World}{g:zb}{S:Nat->Prop}{x u:Value}(h:Rd w g S (.d (.v x)) u):u=x:=by
 cases h with
 | d h=>cases h;rfl
section
variable{P:Program}{ctx:Ctx}{Q:PQ}{s:PState}
theorem PWc.mono{c:Code}{Q':PQ}(h:PWc P ctx c Q s)(hq:∀ e t,Q e t->Q' e t):PWc P ctx c Q' s:=
 fun a w hr=>wp_mono (h a w hr) fun e _ _ ⟨t,h1,h2⟩=>⟨t,hq e t h1,h2⟩
theorem PWc.sub{c:Code}{t:PState}(hs:Sub ctx s t)(h:PWc P ctx c Q t):PWc P ctx c Q s:=fun a w hr=>h a w (hs a w hr)
theorem PWl.sub{ops:Array Oper}{l:List Oper}{t:PState}(hs:Sub ctx s t)(h:PWl P ctx ops Q l t):PWl P ctx ops Q l s:=fun a w hr=>h a w (hs a w hr)
theorem PWc.skip(h:Q .normal s):PWc P ctx .skip Q s:=fun _ _ hr=>wp_skip ⟨s,h,hr⟩
theorem PWc.ret(h:Q .ret s):PWc P ctx .ret Q s:=fun _ _ hr=>wp_ret ⟨s,h,hr⟩
theorem PWc.exit{id:Nat}(h:Q (.exit id) s):PWc P ctx (.exit id) Q s:=fun _ _ hr=>wp_exit ⟨s,h,hr⟩
theorem PWc.seq{x y:Code}(h:PWc P ctx x (Then (PWc P ctx y Q) Q) s):PWc P ctx (x.seq y) Q s:=fun a w hr=>
 wp_seq (wp_mono (h a w hr) fun e a' w' ⟨t,h1,h2⟩=>by
  cases e <;> first | exact h1 a' w' h2 | exact⟨t,h1,h2⟩)
theorem PWc.block{id:Nat}{c:Code}(h:PWc P ctx c (InBlk id Q) s):PWc P ctx (.block id c) Q s:=fun a w hr=>
 wp_block (wp_mono (h a w hr) fun e a' w' ⟨t,h1,h2⟩=>by
  cases e with
  | exit id'=>
   simp only[InBlk] at h1;simp only[Exit.inBlock]
   split at h1
   ·rename_i he;rw[if_pos he];exact⟨t,h1,h2⟩
   ·rename_i he;rw[if_neg he];exact⟨t,h1,h2⟩
  | _=>exact⟨t,h1,h2⟩)
theorem PWc.cond{c:Operand}{x y:Code}{b:Bool}(hc:s.ev c=some (.d (.v (.bool b))))(ht:b=true->PWc P ctx x Q s)(hf:b=false->PWc P ctx y Q s):PWc P ctx (.cond c x y) Q s:=by
 intro a w hr;obtain⟨g,hg⟩:=hr;have hv:a.eval c=.bool b:=(hg.ev hc).of_v;refine wp_cond hv ?_
 cases b with
 | true=>exact ht rfl a w ⟨g,hg⟩
 | false=>exact hf rfl a w ⟨g,hg⟩
theorem PWc.region{id:Nat}{l:List Oper}(h:PWl P ctx l.toArray Q l s):PWc P ctx (.region id l.toArray false) Q s:=fun a w hr=>wp_region_lit (h a w hr)
theorem PWl.nil{ops:Array Oper}(h:Q .normal s):PWl P ctx ops Q [] s:=fun _ _ hr=>wpList_nil ⟨s,h,hr⟩
def Local(P:Program)(ctx:Ctx)(o:Oper)(s t:PState):Prop:=∀ a w,Rel ctx s a w->∀ K Qx,(∀ a' w',Rel ctx t a' w'->K a' w')->o.wp P a w K Qx
theorem PWl.step{ops:Array Oper}{rest:List Oper}{o:Oper}{t:PState}(hl:Local P ctx o s t)(hg:o.guard=none)(h:PWl P ctx ops Q rest t):PWl P ctx ops Q (o::rest) s:=
 fun a w hr=>wpList_plain hg fun K hK=>hl a w hr K _ fun a' w' hr'=>hK a' w' (h a' w' hr')
theorem ur{ops:Array Oper}{a:Act}{w:World}{g:zb}(hr:RelG ctx g s a w){j d:Nat}{b:Bool}(hd:(ops[j]?).bind (·.dst)=some d)(hs:s.at d=some (.d (.v (.bool b)))):yielded ops a.tmps j=some b:=by
 have h1:=hr.slots d _ hs;have hlt:d < a.tmps.size:=by rw[hr.size];exact Zu hs
 have hv:a.tmps.getD d undef=.bool b:=h1.of_v;have:a.tmps[d]?=some (.bool b):=by
  rw[Array.getElem?_eq_getElem hlt];simp[Array.getD,hlt] at hv;rw[hv]
 simp[yielded,hd,this]
theorem PWl.guardT{ops:Array Oper}{rest:List Oper}{o:Oper}{t:PState}{j d:Nat}{b:Bool}(hl:Local P ctx o s t)(hg:o.guard=some (j,b))(hd:(ops[j]?).bind (·.dst)=some d)(hs:s.at d=some (.d (.v (.bool b))))
  (h:PWl P ctx ops Q rest t):PWl P ctx ops Q (o::rest) s:=fun a w ⟨g,hr⟩=>by
 have hw:Region.wanted o (yielded ops a.tmps)=true:=by simp[Region.wanted,hg,ur hr hd hs]
 unfold wpList;rw[if_pos hw];exact .inl (hl a w ⟨g,hr⟩ _ _ fun a' w' hr'=>h a' w' hr')
theorem PWl.guardF{ops:Array Oper}{rest:List Oper}{o:Oper}{j d:Nat}{b c:Bool}(hg:o.guard=some (j,b))(hd:(ops[j]?).bind (·.dst)=some d)(hs:s.at d=some (.d (.v (.bool c))))(hbc:c≠b)
  (h:PWl P ctx ops Q rest (s.putD o.dst PV.und)):PWl P ctx ops Q (o::rest) s:=fun a w ⟨g,hr⟩=>by
 have hw:Region.wanted o (yielded ops a.tmps)=false:=by simp[Region.wanted,hg,ur hr hd hs,hbc]
 exact wpList_skip hw (h _ _ ⟨g,hr.put o.dst Rd.und⟩)
theorem Wb{ops:Array Oper}{a:Act}{w:World}{g:zb}(hr:RelG ctx g s a w){j d:Nat}(hd:(ops[j]?).bind (·.dst)=some d)(hs:s.at d=some .und):yielded ops a.tmps j=none:=by
 have h1:=hr.slots d _ hs;have hlt:d < a.tmps.size:=by rw[hr.size];exact Zu hs
 have hv:a.tmps.getD d undef=undef:=by
  generalize a.tmps.getD d undef=v at h1
  unfold undef
  cases h1
  rfl
 have:a.tmps[d]?=some undef:=by
  rw[Array.getElem?_eq_getElem hlt];simp[Array.getD,hlt] at hv;rw[hv]
 simp[yielded,hd,this,undef]
theorem PWl.guardU{ops:Array Oper}{rest:List Oper}{o:Oper}{j d:Nat}{b:Bool}(hg:o.guard=some (j,b))(hd:(ops[j]?).bind (·.dst)=some d)(hs:s.at d=some .und)
  (h:PWl P ctx ops Q rest (s.putD o.dst PV.und)):PWl P ctx ops Q (o::rest) s:=fun a w ⟨g,hr⟩=>by
 have hw:Region.wanted o (yielded ops a.tmps)=false:=by simp[Region.wanted,hg,Wb hr hd hs]
 exact wpList_skip hw (h _ _ ⟨g,hr.put o.dst Rd.und⟩)
theorem Sub.refl(s:PState):Sub ctx s s:=fun _ _ h=>h
theorem Sub.trans{s t u:PState}(h:Sub ctx s t)(k:Sub ctx t u):Sub ctx s u:=fun a w hr=>k a w (h a w hr)
theorem Sub.drop{s t:PState}(hlen:s.n=t.n)(hs:∀ (i:Nat) (p:PV),t.at i=some p->s.at i=some p)
  (ho:∀ id o,look t.objs id=some o->look s.objs id=some o):Sub ctx s t:=by
 rintro a w ⟨g,h⟩;have hF:∀ b,zk ctx g s.objs b->zk ctx g t.objs b:=fun b ⟨h1,h2⟩=>⟨h1,fun id o n hl hg=>h2 id o n (ho id o hl) hg⟩
 have hst:yV w w (zk ctx g s.objs):=⟨Nat.le_refl _,fun _ _ _=>rfl⟩
 refine⟨g,⟨h.defers,by rw[h.size];exact hlen,?_,?_,?_,?_,h.os,h.tape,h.output,h.grows,h.keep⟩⟩
 ·intro i p hp;exact(h.slots i p (hs i p hp)).keep hst (fun b hb _=>hF b hb) (fun _ _=>rfl)
 ·intro id o hl;exact(h.objs id o (ho id o hl)).keep hst (fun b hb _=>hF b hb) (fun _ _ _=>rfl) rfl (fun _ _=>rfl)
 ·exact fun i j oi oj b n m hi hj=>h.inj i j oi oj b n m (ho i oi hi) (ho j oj hj)
 ·exact fun id o b n hl=>h.own id o b n (ho id o hl)
theorem yW{o:Oper}{t:PState}(h:∀ a w g,RelG ctx g s a w->∃ v w',(execOp a.eval o).run P w=.ok (.value v) w'/\Rel ctx t (a.put o.dst v) w'):Local P ctx o s t:=by
 rintro a w ⟨g,hg⟩ K Qx hK;obtain⟨v,w',hrun,hr⟩:=h a w g hg;unfold Oper.wp;rw[hrun];exact hK _ _ hr
theorem Zv{o:Oper}{t:PState}(h:∀ a w g,RelG ctx g s a w->∃ w',(execOp a.eval o).run P w=.ok .skip w'/\Rel ctx t (a.put o.dst undef) w'):Local P ctx o s t:=by
 rintro a w ⟨g,hg⟩ K Qx hK;obtain⟨w',hrun,hr⟩:=h a w g hg;unfold Oper.wp;rw[hrun];exact hK _ _ hr
theorem zG{o:Oper}{p:PV}(h:∀ a w g,RelG ctx g s a w->∃ v,(execOp a.eval o).run P w=.ok (.value v) w/\Rd w g (zk ctx g s.objs) p v):Local P ctx o s (s.putD o.dst p):=
 yW fun a w g hg=>let ⟨v,h1,h2⟩:=h a w g hg;⟨v,w,h1,g,hg.put o.dst h2⟩
variable{dst:Option Tmp}{ty:TypeId}{pos:String}{after:Array Edge}{gd:Option (Nat×Bool)}
theorem LR.move{x:Operand}{p:PV}(hx:s.ev x=some p):Local P ctx ⟨dst,.move x,ty,pos,after,gd⟩ s (s.putD dst p):=
 zG (o:=⟨dst,.move x,ty,pos,after,gd⟩) fun a w _ hg=>⟨a.eval x,by simp[execOp],hg.ev hx⟩
theorem LR.assign{x:Operand}{p:PV}(hx:s.ev x=some p):Local P ctx ⟨dst,.assign x,ty,pos,after,gd⟩ s (s.putD dst p):=
 zG (o:=⟨dst,.assign x,ty,pos,after,gd⟩) fun a w _ hg=>⟨a.eval x,by simp[execOp],hg.ev hx⟩
theorem yJa{a:Act}{w:World}{g:zb}(hg:RelG ctx g s a w){x:Operand}{b:Bool}(hx:s.ev x=some (.d (.v (.bool b)))):a.eval x=.bool b:=(hg.ev hx).of_v
theorem wq{a:Act}{w:World}{g:zb}(hg:RelG ctx g s a w){x:Operand}{k:IntKind}{n:Int}(hx:s.ev x=some (.d (.v (.int k n)))):a.eval x=.int k n:=(hg.ev hx).of_v
theorem Vz{a:Act}{w:World}{g:zb}(hg:RelG ctx g s a w){x:Operand}{u:Value}(hx:s.ev x=some (.d (.v u))):a.eval x=u:=(hg.ev hx).of_v
theorem LR.pickT{c x y:Operand}{p:PV}(hc:s.ev c=some (.d (.v (.bool true))))(hx:s.ev x=some p):Local P ctx ⟨dst,.pick c x y,ty,pos,after,gd⟩ s (s.putD dst p):=
 zG (o:=⟨dst,.pick c x y,ty,pos,after,gd⟩) fun a w _ hg=>⟨a.eval x,by simp[execOp,yJa hg hc,asBool],hg.ev hx⟩
theorem LR.pickF{c x y:Operand}{p:PV}(hc:s.ev c=some (.d (.v (.bool false))))(hy:s.ev y=some p):Local P ctx ⟨dst,.pick c x y,ty,pos,after,gd⟩ s (s.putD dst p):=
 zG (o:=⟨dst,.pick c x y,ty,pos,after,gd⟩) fun a w _ hg=>⟨a.eval y,by simp[execOp,yJa hg hc,asBool],hg.ev hy⟩
theorem LR.not{x:Operand}{b:Bool}{t:TypeId}(hx:s.ev x=some (.d (.v (.bool b)))):Local P ctx ⟨dst,.unOp .not t x,ty,pos,after,gd⟩ s (s.putD dst (.d (.v (.bool (!b))))):=
 zG (o:=⟨dst,.unOp .not t x,ty,pos,after,gd⟩) fun a w _ hg=>⟨_,by simp[execOp,yJa hg hx,Op.unary],.d (.v _ rfl)⟩
theorem xu{op:BinOp}{x y:Operand}{k:IntKind}{m n:Int}{u:Value}{t t':TypeId}(hx:s.ev x=some (.d (.v (.int k m))))(hy:s.ev y=some (.d (.v (.int k n))))(hu:∀ w,(binOp op t (.int k m) (.int k n)).run P w=.ok u w)(h1:u.oneCell'=true) :
  Local P ctx ⟨dst,.binOp op t x y t',ty,pos,after,gd⟩ s (s.putD dst (.d (.v u))):=
 zG (o:=⟨dst,.binOp op t x y t',ty,pos,after,gd⟩) fun a w _ hg=>⟨u,by simp[execOp,wq hg hx,wq hg hy,eqGuard_at_int,hu],.d (.v _ h1)⟩
section
variable{x y:Operand}{k:IntKind}{m n:Int}{t t':TypeId}(hx:s.ev x=some (.d (.v (.int k m))))(hy:s.ev y=some (.d (.v (.int k n))))
include hx hy
theorem LR.addW : Local P ctx ⟨dst,.binOp .add t x y t',ty,pos,after,gd⟩ s (s.putD dst (.d (.v (.int k (k.wrap (m+n)))))):=xu hx hy (fun w=>by simp[binOp_add,Op.intArith]) rfl
theorem LR.subW : Local P ctx ⟨dst,.binOp .sub t x y t',ty,pos,after,gd⟩ s (s.putD dst (.d (.v (.int k (k.wrap (m - n)))))):=xu hx hy (fun w=>by simp[binOp_sub,Op.intArith]) rfl
theorem LR.quoW(h0:n≠0):Local P ctx ⟨dst,.binOp .quo t x y t',ty,pos,after,gd⟩ s (s.putD dst (.d (.v (.int k (k.wrap (m.tdiv n)))))):=xu hx hy (fun w=>by simp[binOp_quo,Op.intDiv,h0]) rfl
theorem LR.rem(h0:n≠0):Local P ctx ⟨dst,.binOp .rem t x y t',ty,pos,after,gd⟩ s (s.putD dst (.d (.v (.int k (m.tmod n))))):=xu hx hy (fun w=>by simp[binOp_rem,Op.intDiv,h0]) rfl
theorem LR.eql : Local P ctx ⟨dst,.binOp .eql t x y t',ty,pos,after,gd⟩ s (s.putD dst (.d (.v (.bool (decide (m=n)))))):=xu hx hy (fun w=>by simp[binOp_eql];rfl) rfl
theorem LR.neq : Local P ctx ⟨dst,.binOp .neq t x y t',ty,pos,after,gd⟩ s (s.putD dst (.d (.v (.bool (!decide (m=n)))))):=xu hx hy (fun w=>by simp[binOp_neq];rfl) rfl
theorem LR.lss : Local P ctx ⟨dst,.binOp .lss t x y t',ty,pos,after,gd⟩ s (s.putD dst (.d (.v (.bool (decide (m < n)))))):=xu hx hy (fun w=>by simp[binOp_lss]) rfl
theorem LR.leq : Local P ctx ⟨dst,.binOp .leq t x y t',ty,pos,after,gd⟩ s (s.putD dst (.d (.v (.bool (decide (m<=n)))))):=xu hx hy (fun w=>by simp[binOp_leq]) rfl
theorem LR.gtr : Local P ctx ⟨dst,.binOp .gtr t x y t',ty,pos,after,gd⟩ s (s.putD dst (.d (.v (.bool (decide (n < m)))))):=xu hx hy (fun w=>by simp[binOp_gtr]) rfl
theorem LR.geq : Local P ctx ⟨dst,.binOp .geq t x y t',ty,pos,after,gd⟩ s (s.putD dst (.d (.v (.bool (decide (n<=m)))))):=xu hx hy (fun w=>by simp[binOp_geq]) rfl
end
theorem xEa{n:Int}(h:-9223372036854775808<=n)(h':n<=9223372036854775807):IntKind.i64.wrap n=n:=by simp[IntKind.wrap,IntKind.bits,IntKind.signed];omega
section
variable{x y:Operand}{m n:Int}{t t':TypeId}
end
end
end Go.Ep
namespace Go.Ep
theorem wS : type_of% @PWl.step:=@PWl.step
theorem wF : type_of% @PWl.guardF:=@PWl.guardF
theorem wT : type_of% @PWl.guardT:=@PWl.guardT
theorem wR : type_of% @PWc.region:=@PWc.region
theorem wQ : type_of% @PWc.seq:=@PWc.seq
theorem wN : type_of% @PWl.nil:=@PWl.nil
theorem mV : type_of% @LR.move:=@LR.move
theorem aS : type_of% @LR.assign:=@LR.assign
theorem pF : type_of% @LR.pickF:=@LR.pickF
theorem pT : type_of% @LR.pickT:=@LR.pickT
theorem wU : type_of% @PWl.guardU:=@PWl.guardU
theorem wK : type_of% @PWc.skip:=@PWc.skip
theorem wX : type_of% @PWc.ret:=@PWc.ret
theorem wC : type_of% @PWc.cond:=@PWc.cond
theorem eQ : type_of% @LR.eql:=@LR.eql
theorem nQ : type_of% @LR.neq:=@LR.neq
theorem wB : type_of% @PWc.block:=@PWc.block
theorem wZ : type_of% @PWc.exit:=@PWc.exit
theorem wf{P:Program}{ctx:Ctx}{Q:PQ}{s:PState}{ops:Array Oper}{rest:List Oper}{o:Oper}{j d:Nat}{b c:Bool}(h:PWl P ctx ops Q rest (s.putD o.dst PV.und))(hg:o.guard=some (j,b):=by exact rfl)(hd:(ops[j]?).bind (·.dst)=some d:=by exact rfl)(hs:s.at d=some (.d (.v (.bool c))):=by exact rfl)(hbc:c≠b:=by decide):PWl P ctx ops Q (o::rest) s:=PWl.guardF hg hd hs hbc h
theorem wm{P:Program}{ctx:Ctx}{Q:PQ}{s:PState}{ops:Array Oper}{rest:List Oper}{dst:Option Tmp}{ty:TypeId}{pos:String}{after:Array Edge}{gd:Option (Nat×Bool)}{x:Operand}{p:PV}(h:PWl P ctx ops Q rest (s.putD dst p))(hx:s.ev x=some p:=by exact rfl)(hg:gd=none:=by exact rfl):PWl P ctx ops Q (⟨dst,.move x,ty,pos,after,gd⟩::rest) s:=PWl.step (LR.move hx) hg h
theorem wa{P:Program}{ctx:Ctx}{Q:PQ}{s:PState}{ops:Array Oper}{rest:List Oper}{dst:Option Tmp}{ty:TypeId}{pos:String}{after:Array Edge}{gd:Option (Nat×Bool)}{x:Operand}{p:PV}(h:PWl P ctx ops Q rest (s.putD dst p))(hx:s.ev x=some p:=by exact rfl)(hg:gd=none:=by exact rfl):PWl P ctx ops Q (⟨dst,.assign x,ty,pos,after,gd⟩::rest) s:=PWl.step (LR.assign hx) hg h
theorem ws{P:Program}{ctx:Ctx}{Q:PQ}{s:PState}{ops:Array Oper}{rest:List Oper}{o:Oper}{t:PState}(hl:Local P ctx o s t)(h:PWl P ctx ops Q rest t)(hg:o.guard=none:=by exact rfl):PWl P ctx ops Q (o::rest) s:=PWl.step hl hg h
theorem wt{P:Program}{ctx:Ctx}{Q:PQ}{s:PState}{ops:Array Oper}{rest:List Oper}{o:Oper}{t:PState}{j d:Nat}{b:Bool}(hl:Local P ctx o s t)(h:PWl P ctx ops Q rest t)(hg:o.guard=some (j,b):=by exact rfl)(hd:(ops[j]?).bind (·.dst)=some d:=by exact rfl)(hs:s.at d=some (.d (.v (.bool b))):=by exact rfl):PWl P ctx ops Q (o::rest) s:=PWl.guardT hl hg hd hs h
theorem wu{P:Program}{ctx:Ctx}{Q:PQ}{s:PState}{ops:Array Oper}{rest:List Oper}{o:Oper}{j d:Nat}{b:Bool}(h:PWl P ctx ops Q rest (s.putD o.dst PV.und))(hg:o.guard=some (j,b):=by exact rfl)(hd:(ops[j]?).bind (·.dst)=some d:=by exact rfl)(hs:s.at d=some .und:=by exact rfl):PWl P ctx ops Q (o::rest) s:=PWl.guardU hg hd hs h
end Go.Ep
namespace Go.Ep
open Go.RowKit
def upd(g:zb)(id:Nat)(v:Option (Nat×Nat)):zb:=fun j=>if j=id then v else g j
theorem zQ(g:zb)(id:Nat)(v:Option (Nat×Nat)):upd g id v id=v:=by simp[upd]
theorem ya{g:zb}{id j:Nat}{v:Option (Nat×Nat)}(h:j≠id):upd g id v j=g j:=by simp[upd,h]
def w3a(id:Nat)(full:List (Nat×PV)):List (Nat×PV)->Bool
 | []=>true
 | (k,p)::r=>bif p.has id then (match xt full k with | some q=>!q.has id | none=>true)&&w3a id full r else w3a id full r
theorem Xa{id:Nat}{full:List (Nat×PV)}:∀ {l:List (Nat×PV)} {k:Nat} {p q:PV},w3a id full l=true->(k,p)∈l->xt full k=some q->p.has id=true->q.has id=false
 | [],_,_,_,_,hm,_,_=>by simp at hm
 | (k',p')::r,k,p,q,h,hm,hg,hp=>by
  unfold w3a at h;rcases List.mem_cons.1 hm with e | hm
  ·cases e
   rw[hp,hg] at h;simp at h;exact h.1
  ·cases hb:p'.has id with
   | true=>rw[hb] at h;simp only[cond_true,Bool.and_eq_true] at h;exact Xa h.2 hm hg hp
   | false=>rw[hb] at h;exact Xa h hm hg hp
theorem yKa{s:PState}{id:Nat}(h:w3a id s.sl s.sl=true){i:Nat}{p:PV}(hp:s.at i=some p):p.has id=false:=by
 have hg:=xL hp
 cases hb:p.has id with
 | false=>rfl
 | true=>rw[<- hb];exact Xa h (Wy hg) hg hb
def PState.fresh(s:PState)(id:Nat):Bool:=w3a id s.sl s.sl&&s.objs.all (fun x=>x.1 != id&&!x.2.has id)
theorem xi : ∀ {l:List (Nat×Ob)} {id:Nat} {o:Ob},look l id=some o->(id,o)∈l
 | [],_,_,h=>by simp[look] at h
 | (k,p)::r,id,o,h=>by
  unfold look at h
  by_cases hk:id=k
  ·subst hk;simp at h;subst h;simp
  ·simp only[hk,if_false] at h;exact List.mem_cons_of_mem _ (xi h)
theorem Jo{s:PState}{id:Nat}(h:s.fresh id=true){i:Nat}{p:PV}(hp:s.at i=some p):p.has id=false:=by
 simp only[PState.fresh,Bool.and_eq_true] at h;exact yKa h.1 hp
theorem Jp{s:PState}{id:Nat}(h:s.fresh id=true):look s.objs id=none:=by
 simp only[PState.fresh,Bool.and_eq_true,List.all_eq_true] at h
 cases hl:look s.objs id with
 | none=>rfl
 | some o=>have:=h.2 _ (xi hl);simp at this
theorem w9a{s:PState}{id:Nat}(h:s.fresh id=true){j:Nat}{o:Ob}(ho:look s.objs j=some o):o.has id=false:=by
 simp only[PState.fresh,Bool.and_eq_true,List.all_eq_true] at h;have:=h.2 _ (xi ho);simpa using this.2
section
variable{P:Program}{ctx:Ctx}{Q:PQ}{s:PState}
theorem RelG.below{g:zb}{a:Act}{w w':World}(h:RelG ctx g s a w)(hb:Below w.heap.size w w'):RelG ctx g s a w':=by
 have hst:yV w w' (zk ctx g s.objs):=⟨hb.size,fun b _ hlt=>hb.block b hlt⟩
 refine⟨h.defers,h.size,fun i p hp=>(h.slots i p hp).keep hst (fun _ hb _=>hb) (fun _ _=>rfl),?_,h.inj,?_,hb.os.trans h.os,hb.tape.trans h.tape,hb.output.trans h.output,Nat.le_trans h.grows hb.size,?_⟩
 ·intro id o hl;exact(h.objs id o hl).keep hst (fun _ hb _=>hb) (fun b n hg=>hb.block b (h.own id o b n hl hg).1) rfl (fun _ _=>rfl)
 ·intro id o b n hl hg;have:=h.own id o b n hl hg;exact⟨Nat.lt_of_lt_of_le this.1 hb.size,this.2⟩
 ·intro k hk hK;rw[hb.block k (Nat.lt_of_lt_of_le hk h.grows)];exact h.keep k hk hK
theorem RelG.new{g:zb}{a:Act}{w w':World}(h:RelG ctx g s a w)(hb:Below w.heap.size w w'){id:Nat}(hf:s.fresh id=true)(gv:Option (Nat×Nat))
  (hgv:∀ b n,gv=some (b,n)->w.heap.size<=b/\b < w'.heap.size) (ob:Ob)
  (ho:ObRd w' (upd g id gv) (zk ctx (upd g id gv) (yD id ob s.objs)) id ob):RelG ctx (upd g id gv) { s with objs:=yD id ob s.objs } a w':=by
 have h':=h.below hb;have hF:∀ b,zk ctx g s.objs b->b < w.heap.size->zk ctx (upd g id gv) (yD id ob s.objs) b:=by
  intro b ⟨h1,h2⟩ hlt;refine⟨h1,fun j o n hl hg=>?_⟩;rw[zD] at hl
  by_cases hj:j=id
  ·subst hj;rw[zQ] at hg;have:=(hgv b n hg).1;omega
  ·rw[if_neg hj] at hl;rw[ya hj] at hg;exact h2 j o n hl hg
 have hst:yV w w' (zk ctx g s.objs):=⟨hb.size,fun b _ hlt=>hb.block b hlt⟩
 have hne:∀ {i:Nat} {p:PV},s.at i=some p->∀ j,p.has j=true->upd g id gv j=g j:=fun hp j hj=>ya fun e=>by
  subst e;rw[Jo hf hp] at hj;cases hj
 refine⟨h.defers,h.size,fun i p hp=>(h.slots i p hp).keep hst hF (hne hp),?_,?_,?_,h'.os,h'.tape,h'.output,h'.grows,h'.keep⟩
 ·intro j o hl;rw[zD] at hl
  by_cases hj:j=id
  ·subst hj;rw[if_pos rfl] at hl
   cases hl
   exact ho
  ·rw[if_neg hj] at hl;refine(h.objs j o hl).keep hst hF (fun b n hg=>hb.block b (h.own j o b n hl hg).1) (ya hj) (fun i hi=>ya fun e=>?_);subst e;rw[w9a hf hl] at hi;cases hi
 ·intro i j oi oj b n m hi hj hgi hgj;rw[zD] at hi hj
  by_cases h1:i=id <;> by_cases h2:j=id
  ·exact h1.trans h2.symm
  ·subst h1;rw[zQ] at hgi;rw[if_neg h2] at hj;rw[ya h2] at hgj;have:=(hgv b n hgi).1;have:=(h.own j oj b m hj hgj).1;omega
  ·subst h2;rw[zQ] at hgj;rw[if_neg h1] at hi;rw[ya h1] at hgi;have:=(hgv b m hgj).1;have:=(h.own i oi b n hi hgi).1;omega
  ·rw[if_neg h1] at hi;rw[if_neg h2] at hj;rw[ya h1] at hgi;rw[ya h2] at hgj;exact h.inj i j oi oj b n m hi hj hgi hgj
 ·intro j o b n hl hg;rw[zD] at hl
  by_cases hj:j=id
  ·subst hj;rw[zQ] at hg;have:=hgv b n hg;exact⟨this.2,.inl (Nat.le_trans h.grows this.1)⟩
  ·rw[if_neg hj] at hl;rw[ya hj] at hg;exact h'.own j o b n hl hg
theorem RelG.wrote{g:zb}{a:Act}{w w':World}(h:RelG ctx g s a w){id blk n:Nat}{o0 ob:Ob}(hl:look s.objs id=some o0)(hgi:g id=some (blk,n))
  (hos:w'.os=w.os) (htape:w'.tape=w.tape) (hout:w'.output=w.output) (hsize:w.heap.size<=w'.heap.size) (hother:∀ k,k < w.heap.size->k≠blk->w'.heap[k]?=w.heap[k]?)
  (hblk:ctx.w0.heap.size<=blk\/ctx.K blk)
  (ho:ObRd w' g (zk ctx g (yD id ob s.objs)) id ob):RelG ctx g { s with objs:=yD id ob s.objs } a w':=by
 have hF:∀ b,zk ctx g s.objs b->zk ctx g (yD id ob s.objs) b:=by
  intro b ⟨h1,h2⟩;refine⟨h1,fun j o m hj hg=>?_⟩;rw[zD] at hj
  by_cases e:j=id
  ·subst e;exact h2 j o0 m hl hg
  ·rw[if_neg e] at hj;exact h2 j o m hj hg
 have hst:yV w w' (zk ctx g s.objs):=⟨hsize,fun b ⟨_,h2⟩ hlt=>hother b hlt fun e=>by subst e;exact h2 id o0 n hl hgi⟩
 refine⟨h.defers,h.size,fun i p hp=>(h.slots i p hp).keep hst (fun b hb _=>hF b hb) (fun _ _=>rfl),?_,?_,?_,hos.trans h.os,htape.trans h.tape,hout.trans h.output,Nat.le_trans h.grows hsize,?_⟩
 ·intro j o hj;rw[zD] at hj
  by_cases e:j=id
  ·subst e;rw[if_pos rfl] at hj;cases hj;exact ho
  ·rw[if_neg e] at hj;exact(h.objs j o hj).keep hst (fun b hb _=>hF b hb) (fun b m hg=>hother b (h.own j o b m hj hg).1 fun eb=>e (h.inj j id o o0 b m n hj hl hg (by rw[hgi,eb]))) rfl (fun _ _=>rfl)
 ·intro i j oi oj b m m' hi hj hgi' hgj';rw[zD] at hi hj;have hi':∃ o,look s.objs i=some o:=by
   by_cases e:i=id
   ·subst e;exact⟨o0,hl⟩
   ·rw[if_neg e] at hi;exact⟨oi,hi⟩
  have hj':∃ o,look s.objs j=some o:=by
   by_cases e:j=id
   ·subst e;exact⟨o0,hl⟩
   ·rw[if_neg e] at hj;exact⟨oj,hj⟩
  obtain⟨p,hp⟩:=hi';obtain⟨q,hq⟩:=hj';exact h.inj i j p q b m m' hp hq hgi' hgj'
 ·intro j o b m hj hg;have hj':∃ o,look s.objs j=some o:=by
   rw[zD] at hj
   by_cases e:j=id
   ·subst e;exact⟨o0,hl⟩
   ·rw[if_neg e] at hj;exact⟨o,hj⟩
  obtain⟨q,hq⟩:=hj';have:=h.own j q b m hq hg;exact⟨Nat.lt_of_lt_of_le this.1 hsize,this.2⟩
 ·intro k hk hK;have hne:k≠blk:=fun e=>by
   subst e;rcases hblk with h1 | h1
   ·omega
   ·exact hK h1
  rw[hother k (Nat.lt_of_lt_of_le hk h.grows) hne];exact h.keep k hk hK
variable{dst:Option Tmp}{ty:TypeId}{pos:String}{after:Array Edge}{gd:Option (Nat×Bool)}
theorem LR.lenSl{x:Operand}{l:List (List DV)}{t e:TypeId}(hu:P.underlying t=some (.slice e))(hx:s.ev x=some (.d (.sl l))) :
  Local P ctx ⟨dst,.call ⟨.builtin .len,#[x],#[t]⟩,ty,pos,after,gd⟩ s (s.putD dst (.d (.v (.int .i64 l.length)))):=
 zG (o:=⟨dst,.call ⟨.builtin .len,#[x],#[t]⟩,ty,pos,after,gd⟩) fun a w g hg=>by
  have h:=hg.ev hx;have hE:P.underlying t=some (.slice (P.elem t)):=by simp[Program.elem,hu]
  refine⟨.int .i64 l.length,?_,.d (.v _ rfl)⟩
  cases h with
  | d h=>
   generalize hv:a.eval x=v at h
   cases h <;> simp[execOp,resolve,invoke,builtin,hv,run_len_slice,hE,Result.andThen,goInt]
theorem LR.lenRow{x:Operand}{id n:Nat}{t e:TypeId}(hu:P.underlying t=some (.slice e))(hx:s.ev x=some (.row id n)) :
  Local P ctx ⟨dst,.call ⟨.builtin .len,#[x],#[t]⟩,ty,pos,after,gd⟩ s (s.putD dst (.d (.v (.int .i64 n)))):=
 zG (o:=⟨dst,.call ⟨.builtin .len,#[x],#[t]⟩,ty,pos,after,gd⟩) fun a w g hg=>by
  have h:=hg.ev hx;have hE:P.underlying t=some (.slice (P.elem t)):=by simp[Program.elem,hu]
  refine⟨.int .i64 n,?_,.d (.v _ rfl)⟩
  generalize hv:a.eval x=v at h
  cases h <;> simp[execOp,resolve,invoke,builtin,hv,run_len_slice,hE,Result.andThen,goInt]
theorem LR.lenStr{x:Operand}{b:ByteArray}{t:TypeId}(hu:P.underlying t=some .string)(hx:s.ev x=some (.d (.v (.string b)))) :
  Local P ctx ⟨dst,.call ⟨.builtin .len,#[x],#[t]⟩,ty,pos,after,gd⟩ s (s.putD dst (.d (.v (.int .i64 b.size)))):=
 zG (o:=⟨dst,.call ⟨.builtin .len,#[x],#[t]⟩,ty,pos,after,gd⟩) fun a w g hg=>
  ⟨.int .i64 b.size,by simp[execOp,resolve,invoke,builtin,Vz hg hx,run_len_string,hu,Result.andThen,goInt],.d (.v _ rfl)⟩
theorem LR.maxI{x y:Operand}{k:IntKind}{m n:Int}{ts:Array TypeId}(hx:s.ev x=some (.d (.v (.int k m))))(hy:s.ev y=some (.d (.v (.int k n)))) :
  Local P ctx ⟨dst,.call ⟨.builtin .max,#[x,y],ts⟩,ty,pos,after,gd⟩ s (s.putD dst (.d (.v (.int k (max m n))))):=
 zG (o:=⟨dst,.call ⟨.builtin .max,#[x,y],ts⟩,ty,pos,after,gd⟩) fun a w g hg=>
  ⟨.int k (max m n),by
   have:max m n=if n > m then n else m:=by omega
   rw[this];simp[execOp,resolve,invoke,builtin,wq hg hx,wq hg hy,run_max_int2,Result.andThen],.d (.v _ rfl)⟩
theorem LR.minI{x y:Operand}{k:IntKind}{m n:Int}{ts:Array TypeId}(hx:s.ev x=some (.d (.v (.int k m))))(hy:s.ev y=some (.d (.v (.int k n)))) :
  Local P ctx ⟨dst,.call ⟨.builtin .min,#[x,y],ts⟩,ty,pos,after,gd⟩ s (s.putD dst (.d (.v (.int k (min m n))))):=
 zG (o:=⟨dst,.call ⟨.builtin .min,#[x,y],ts⟩,ty,pos,after,gd⟩) fun a w g hg=>
  ⟨.int k (min m n),by
   have:min m n=if n < m then n else m:=by omega
   rw[this];simp[execOp,resolve,invoke,builtin,wq hg hx,wq hg hy,run_min_int2,Result.andThen],.d (.v _ rfl)⟩
theorem YN{st:TypeId}{fs:Array Field}{fi:Nat}{f:Field}{n:Nat}(hu:P.underlying st=some (.struct fs))(hf:fs[fi]?=some f)(hs:∀ w,(sizeOf f.type).run P w=.ok n w)(hn:n≠0)(a:Addr)(w:World) :
  (Instr.fieldAt st (.pointer (some a)) fi).run P w=.ok (.pointer (some (a.add f.offset))) w:=by
 simp[Instr.fieldAt,run_underlying hu,hf,Instr.sureAddr,fieldPlace,hs,hn]
section
variable{x:Operand}{st:TypeId}{fs:Array Field}{fi off m:Nat}{f:Field}(hu:P.underlying st=some (.struct fs))(hf:fs[fi]?=some f)(hs:∀ w,(sizeOf f.type).run P w=.ok m w)(hm:m≠0)(ho:f.offset=off)
include hu hf hs hm ho
theorem LR.fieldRef{id o:Nat}(hx:s.ev x=some (.ref id o)):Local P ctx ⟨dst,.fieldAddr st x fi,ty,pos,after,gd⟩ s (s.putD dst (.ref id (o+off))):=
 zG (o:=⟨dst,.fieldAddr st x fi,ty,pos,after,gd⟩) fun a w g hg=>by
  have h:=hg.ev hx
  generalize hv:a.eval x=v at h
  cases h with
  | ref _ _ blk n h=>
   refine⟨.pointer (some ⟨blk,o+off,none⟩),?_,.ref id _ blk n h⟩;simp[execOp,hv,YN hu hf hs hm,Addr.add_lit,ho,Result.andThen]
theorem LR.fieldRp{id i o k:Nat}(hx:s.ev x=some (.rp id i o k)):Local P ctx ⟨dst,.fieldAddr st x fi,ty,pos,after,gd⟩ s (s.putD dst (.rp id i (o+off) k)):=
 zG (o:=⟨dst,.fieldAddr st x fi,ty,pos,after,gd⟩) fun a w g hg=>by
  have h:=hg.ev hx
  generalize hv:a.eval x=v at h
  cases h with
  | rp _ _ _ _ blk cap h=>
   refine⟨.pointer (some ⟨blk,i*k+(o+off),none⟩),?_,.rp id i _ k blk cap h⟩;simp[execOp,hv,YN hu hf hs hm,Addr.add_lit,ho,Result.andThen,Nat.add_assoc]
theorem LR.fieldEp{cs:List DV}{o:Nat}(hx:s.ev x=some (.ep cs o)):Local P ctx ⟨dst,.fieldAddr st x fi,ty,pos,after,gd⟩ s (s.putD dst (.ep cs (o+off))):=
 zG (o:=⟨dst,.fieldAddr st x fi,ty,pos,after,gd⟩) fun a w g hg=>by
  have h:=hg.ev hx
  generalize hv:a.eval x=v at h
  cases h with
  | ep _ b ofs _ c hS hb hc hr=>
   refine⟨.pointer (some ⟨b,ofs+(o+off),none⟩),?_,.ep cs b ofs _ c hS hb hc hr⟩;simp[execOp,hv,YN hu hf hs hm,Addr.add_lit,ho,Result.andThen,Nat.add_assoc]
end
theorem uu{t e:TypeId}{k:Nat}(hu:P.underlying t=some (.slice e))(hs:∀ w,(sizeOf e).run P w=.ok k w)(b off len cap:Nat)(ki:IntKind)(i:Int)(n:Nat)(hi:i=n)(hn:n < len)(w:World) :
  (Instr.indexAt t (.slice (some ⟨b,off,none⟩) len cap) (.int ki i)).run P w=.ok (.pointer (some ⟨b,off+n*k,none⟩)) w:=by
 subst hi;have h1:(0:Int)<=n/\(n:Int) < len:=by omega
 simp[Instr.indexAt,asIntOf,run_underlying hu,h1,hs,Addr.add_lit,Result.andThen];omega
theorem LR.idxSl{x ix:Operand}{l:List (List DV)}{ki:IntKind}{i:Int}{n k:Nat}{cs:List DV}{t e:TypeId}(hu:P.underlying t=some (.slice e))(hs:∀ w,(sizeOf e).run P w=.ok k w)
  (hx:s.ev x=some (.d (.sl l))) (hix:s.ev ix=some (.d (.v (.int ki i)))) (hi:i=n) (hn:l[n]?=some cs) (hk:cs.length=k) :
  Local P ctx ⟨dst,.indexAddr t x ix,ty,pos,after,gd⟩ s (s.putD dst (.ep cs 0)):=
 zG (o:=⟨dst,.indexAddr t x ix,ty,pos,after,gd⟩) fun a w g hg=>by
  have h:=hg.ev hx
  generalize hv:a.eval x=v at h
  cases h with
  | d h=>
   cases h with
   | nil=>simp at hn
   | sl _ b off cap k' c hl hcap hS hb hkk hc hr=>
    have hk':k'=k:=by rw[<- hkk n cs hn,hk]
    subst hk';have hlt:n < l.length:=(List.getElem?_eq_some_iff.1 hn).1;refine⟨.pointer (some ⟨b,off+n*k'+0,none⟩),?_,.ep cs b (off+n*k') 0 (c n) hS hb ?_ ?_⟩
    ·simp[execOp,hv,wq hg hix,uu hu hs b off l.length cap ki i n hi hlt,Result.andThen]
    ·intro j hj;rw[Nat.add_assoc];exact hc n j hlt (by omega)
    ·intro j x hx;exact hr n cs j x hn hx
theorem LR.idxRow{x ix:Operand}{id m:Nat}{ki:IntKind}{i:Int}{n k:Nat}{t e:TypeId}(hu:P.underlying t=some (.slice e))(hs:∀ w,(sizeOf e).run P w=.ok k w)
  (hx:s.ev x=some (.row id m)) (hix:s.ev ix=some (.d (.v (.int ki i)))) (hi:i=n) (hn:n < m) :
  Local P ctx ⟨dst,.indexAddr t x ix,ty,pos,after,gd⟩ s (s.putD dst (.rp id n 0 k)):=
 zG (o:=⟨dst,.indexAddr t x ix,ty,pos,after,gd⟩) fun a w g hg=>by
  have h:=hg.ev hx
  generalize hv:a.eval x=v at h
  cases h with
  | row _ _ blk cap h=>
   refine⟨.pointer (some ⟨blk,n*k+0,none⟩),?_,.rp id n 0 k blk cap h⟩;simp[execOp,hv,wq hg hix,uu hu hs blk 0 m cap ki i n hi hn,Result.andThen]
  | rowNil=>omega
theorem vr{T:TypeId}(ha:∀ w,(isAgg T).run P w=.ok false w){w:World}{ad:Addr}{u:Value}(h:w.cell? ad=some u):(loadVar T ad).run P w=.ok u w:=by
 simp[loadVar,ha,h]
theorem uv{T:TypeId}{us:List Value}(ha:∀ w,(isAgg T).run P w=.ok true w)(hs:∀ w,(sizeOf T).run P w=.ok us.length w){w:World}{b o:Nat}(h:∀ j u,us[j]?=some u->w.cell? ⟨b,o+j,none⟩=some u) :
  (loadVar T ⟨b,o,none⟩).run P w=.ok (.agg us.toArray) w:=by
 have:=run_loadCells_list (P:=P) w ⟨b,o,none⟩ us (fun j v hv=>by rw[Addr.add_lit];exact h j v hv);simp[loadVar,ha,hs,this]
theorem zU{w:World}{blk:Nat}{us:List Value}{T:TypeId}(h:w.heap[blk]?=some (.cells us.toArray T (0,0)))(o:Nat):w.cell? ⟨blk,o,none⟩=us[o]?:=by
 simp[World.cell?,h]
theorem LR.loadRef{x:Operand}{id o:Nat}{T T0:TypeId}{cs:List PV}{p:PV}(ha:∀ w,(isAgg T).run P w=.ok false w)(hx:s.ev x=some (.ref id o))(hl:look s.objs id=some (.cells T0 cs))(hp:cs[o]?=some p) :
  Local P ctx ⟨dst,.load T x,ty,pos,after,gd⟩ s (s.putD dst p):=
 zG (o:=⟨dst,.load T x,ty,pos,after,gd⟩) fun a w g hg=>by
  have h:=hg.ev hx
  generalize hv:a.eval x=v at h
  cases h with
  | ref _ _ blk n hgi=>
   have hob:=hg.objs id _ hl
   cases hob with
   | cells _ _ blk' n' us h' hh hlen hr h1=>
    rw[hgi] at h'
    cases h'
    have hlt:o < us.length:=by rw[<- hlen];exact(List.getElem?_eq_some_iff.1 hp).1
    have hu:us[o]?=some us[o]:=List.getElem?_eq_getElem hlt;refine⟨us[o],?_,hr o p _ hp hu⟩;have:=vr (P:=P) ha (w:=w) (ad:=⟨blk,o,none⟩) (u:=us[o]) (by rw[zU hh];exact hu);simp[execOp,hv,Instr.loadAt,Instr.sureAddr,this,Result.andThen]
theorem LR.loadRefAgg{x:Operand}{id o k:Nat}{T T0:TypeId}{cs ps:List PV}(ha:∀ w,(isAgg T).run P w=.ok true w)(hs:∀ w,(sizeOf T).run P w=.ok k w)(hx:s.ev x=some (.ref id o))(hl:look s.objs id=some (.cells T0 cs))(hps:(cs.drop o).take k=ps)(hk:ps.length=k) :
  Local P ctx ⟨dst,.load T x,ty,pos,after,gd⟩ s (s.putD dst (.agg ps)):=
 zG (o:=⟨dst,.load T x,ty,pos,after,gd⟩) fun a w g hg=>by
  have h:=hg.ev hx
  generalize hv:a.eval x=v at h
  cases h with
  | ref _ _ blk n hgi=>
   have hob:=hg.objs id _ hl
   cases hob with
   | cells _ _ blk' n' us h' hh hlen hr h1=>
    rw[hgi] at h'
    cases h'
    subst hps;have hlen2:((us.drop o).take k).length=k:=by
     simp only[List.length_take,List.length_drop] at hk ⊢;omega
    refine⟨.agg ((us.drop o).take k).toArray,?_,.agg _ _ (by rw[hk,hlen2]) ?_ ?_⟩
    ·have:=uv (P:=P) (us:=(us.drop o).take k) ha (by rw[hlen2];exact hs) (w:=w) (b:=blk) (o:=o) (fun j u hu=>by
      rw[zU hh];simp only[List.getElem?_take,List.getElem?_drop] at hu
      split at hu
      ·exact hu
      ·cases hu)
     simp[execOp,hv,Instr.loadAt,Instr.sureAddr,this,Result.andThen]
    ·intro i p u hp hu;simp only[List.getElem?_take,List.getElem?_drop] at hp hu
     split at hp
     ·rename_i hlt;rw[if_pos hlt] at hu;exact hr _ p u hp hu
     ·cases hp
    ·intro u hu;exact h1 u (List.mem_of_mem_drop (List.mem_of_mem_take hu))
theorem LR.loadEp{x:Operand}{o:Nat}{T:TypeId}{cs:List DV}{y:DV}(ha:∀ w,(isAgg T).run P w=.ok false w)(hx:s.ev x=some (.ep cs o))(hy:cs[o]?=some y) :
  Local P ctx ⟨dst,.load T x,ty,pos,after,gd⟩ s (s.putD dst (.d y)):=
 zG (o:=⟨dst,.load T x,ty,pos,after,gd⟩) fun a w g hg=>by
  have h:=hg.ev hx
  generalize hv:a.eval x=v at h
  cases h with
  | ep _ b off _ c hS hb hc hr=>
   have hlt:o < cs.length:=(List.getElem?_eq_some_iff.1 hy).1;refine⟨c o,?_,.d (hr o y hy)⟩;have:=vr (P:=P) ha (w:=w) (ad:=⟨b,off+o,none⟩) (u:=c o) (hc o hlt);simp[execOp,hv,Instr.loadAt,Instr.sureAddr,this,Result.andThen]
theorem LR.loadEpAgg{x:Operand}{o k:Nat}{T:TypeId}{cs ys:List DV}(ha:∀ w,(isAgg T).run P w=.ok true w)(hs:∀ w,(sizeOf T).run P w=.ok k w)(hx:s.ev x=some (.ep cs o))(hys:(cs.drop o).take k=ys)(hk:ys.length=k) :
  Local P ctx ⟨dst,.load T x,ty,pos,after,gd⟩ s (s.putD dst (.agg (ys.map .d))):=
 zG (o:=⟨dst,.load T x,ty,pos,after,gd⟩) fun a w g hg=>by
  have h:=hg.ev hx
  generalize hv:a.eval x=v at h
  cases h with
  | ep _ b off _ c hS hb hc hr=>
   subst hys;have hk2:o+k<=cs.length\/k=0:=by
    simp only[List.length_take,List.length_drop] at hk;omega
   let us:List Value:=(List.range k).map fun j=>c (o+j)
   have hul:us.length=k:=by simp[us]
   refine⟨.agg us.toArray,?_,.agg _ _ (by rw[List.length_map,hk,hul]) ?_ ?_⟩
   ·have:=uv (P:=P) (us:=us) ha (by rw[hul];exact hs) (w:=w) (b:=b) (o:=off+o) (fun j u hu=>by
     have hj:j < k:=by rw[<- hul];exact(List.getElem?_eq_some_iff.1 hu).1
     have:u=c (o+j):=by simp[us,hj] at hu;exact hu.symm
     rw[this,Nat.add_assoc];exact hc (o+j) (by omega))
    simp[execOp,hv,Instr.loadAt,Instr.sureAddr,this,Result.andThen]
   ·intro i p u hp hu;have hi:i < k:=by rw[<- hul];exact(List.getElem?_eq_some_iff.1 hu).1
    have hu':u=c (o+i):=by simp[us,hi] at hu;exact hu.symm
    simp only[List.getElem?_map,List.getElem?_take,List.getElem?_drop,hi,if_true] at hp
    cases hx:cs[o+i]? with
    | none=>simp[hx] at hp
    | some y=>
     simp[hx] at hp;subst hp;rw[hu'];exact .d (hr (o+i) y hx)
   ·intro u hu;simp only[us,List.mem_map,List.mem_range] at hu;obtain⟨j,hj,rfl⟩:=hu;have hlt:o+j < cs.length:=by omega
    exact(hr (o+j) _ (List.getElem?_eq_getElem hlt)).one
theorem xFa{g:zb}{S:Nat->Prop}{w:World}{id blk cap k:Nat}{T:TypeId}{l:List (List DV)}(hob:ObRd w g S id (.row T k l))(hgi:g id=some (blk,cap)){i:Nat}{cs:List DV}(hi:l[i]?=some cs) :
  cs.length=k/\∃ c:Nat->Value,∀ j x,cs[j]?=some x->w.cell? ⟨blk,i*k+j,none⟩=some (c j)/\DRd w S x (c j):=by
 cases hob with
 | rowNil=>simp at hi
 | row _ _ _ blk' cap' cur h' hh hlc hcap hcs hk hr=>
  rw[hgi] at h'
  cases h'
  refine⟨hk i cs hi,fun j=>cur.getD (i*k+j) undef,fun j x hx=>?_⟩;obtain⟨u,hu,hd⟩:=hr i cs j x hi hx;have e:cur.getD (i*k+j) undef=u:=by simp[List.getD,hu]
  show w.cell? _=some (cur.getD (i*k+j) undef)/\DRd w S x (cur.getD (i*k+j) undef);rw[e];exact⟨by rw[zU hh];exact hu,hd⟩
theorem LR.loadRp{x:Operand}{id i o k:Nat}{T T0:TypeId}{l:List (List DV)}{cs:List DV}{y:DV}(ha:∀ w,(isAgg T).run P w=.ok false w)(hx:s.ev x=some (.rp id i o k))(hl:look s.objs id=some (.row T0 k l))(hi:l[i]?=some cs)(hy:cs[o]?=some y) :
  Local P ctx ⟨dst,.load T x,ty,pos,after,gd⟩ s (s.putD dst (.d y)):=
 zG (o:=⟨dst,.load T x,ty,pos,after,gd⟩) fun a w g hg=>by
  have h:=hg.ev hx
  generalize hv:a.eval x=v at h
  cases h with
  | rp _ _ _ _ blk cap hgi=>
   obtain⟨_,c,hc⟩:=xFa (hg.objs id _ hl) hgi hi;obtain⟨h1,h2⟩:=hc o y hy;refine⟨c o,?_,.d h2⟩;have:=vr (P:=P) ha (w:=w) (ad:=⟨blk,i*k+o,none⟩) (u:=c o) h1;simp[execOp,hv,Instr.loadAt,Instr.sureAddr,this,Result.andThen]
theorem LR.loadRpAgg{x:Operand}{id i k:Nat}{T T0:TypeId}{l:List (List DV)}{cs:List DV}(ha:∀ w,(isAgg T).run P w=.ok true w)(hs:∀ w,(sizeOf T).run P w=.ok k w)(hx:s.ev x=some (.rp id i 0 k))(hl:look s.objs id=some (.row T0 k l))(hi:l[i]?=some cs) :
  Local P ctx ⟨dst,.load T x,ty,pos,after,gd⟩ s (s.putD dst (.agg (cs.map .d))):=
 zG (o:=⟨dst,.load T x,ty,pos,after,gd⟩) fun a w g hg=>by
  have h:=hg.ev hx
  generalize hv:a.eval x=v at h
  cases h with
  | rp _ _ _ _ blk cap hgi=>
   obtain⟨hlen,c,hc⟩:=xFa (hg.objs id _ hl) hgi hi
   let us:List Value:=(List.range k).map c
   have hul:us.length=k:=by simp[us]
   have hcj:∀ j,j < k->∃ x,cs[j]?=some x/\w.cell? ⟨blk,i*k+j,none⟩=some (c j)/\DRd w (zk ctx g s.objs) x (c j):=fun j hj=>by
    have:j < cs.length:=by omega
    exact⟨cs[j],List.getElem?_eq_getElem this,hc j _ (List.getElem?_eq_getElem this)⟩
   refine⟨.agg us.toArray,?_,.agg _ _ (by rw[List.length_map,hlen,hul]) ?_ ?_⟩
   ·have:=uv (P:=P) (us:=us) ha (by rw[hul];exact hs) (w:=w) (b:=blk) (o:=i*k) (fun j u hu=>by
     have hj:j < k:=by rw[<- hul];exact(List.getElem?_eq_some_iff.1 hu).1
     have:u=c j:=by simp[us,hj] at hu;exact hu.symm
     rw[this];exact(hcj j hj).choose_spec.2.1)
    simp[execOp,hv,Instr.loadAt,Instr.sureAddr,this,Result.andThen]
   ·intro j p u hp hu;have hj:j < k:=by rw[<- hul];exact(List.getElem?_eq_some_iff.1 hu).1
    have hu':u=c j:=by simp[us,hj] at hu;exact hu.symm
    obtain⟨x,hx,_,hd⟩:=hcj j hj;simp[hx] at hp;subst hp;rw[hu'];exact .d hd
   ·intro u hu;simp only[us,List.mem_map,List.mem_range] at hu;obtain⟨j,hj,rfl⟩:=hu;obtain⟨x,hx,_,hd⟩:=hcj j hj;exact hd.one
end
end Go.Ep
namespace Go.Ep
theorem fR : type_of% @LR.fieldRef:=@LR.fieldRef
theorem lD : type_of% @LR.loadRef:=@LR.loadRef
theorem lA : type_of% @LR.loadRefAgg:=@LR.loadRefAgg
theorem lE : type_of% @LR.loadEpAgg:=@LR.loadEpAgg
theorem fE : type_of% @LR.fieldEp:=@LR.fieldEp
end Go.Ep
namespace Go.Ep
open Go.RowKit
theorem vC{w:World}{g:Nat}{old cs:Array Value}{t:TypeId}(hg:w.heap[g]?=some (.cells old t (0,0))):(w.setRow g cs).heap[g]?=some (.cells cs t (0,0)):=setRow_heap w g old cs t (0,0) hg
theorem Below.alloc1(w:World)(o:Obj):Below w.heap.size w (w.alloc o):=(Below.refl _ w).alloc (Nat.le_refl _) o
def PV.parts : PV->Option (List PV)
 | .agg cs=>some cs
 | .d x=>some [.d x]
 | .ref i o=>some [.ref i o]
 | .row i n=>some [.row i n]
 | .mp i=>some [.mp i]
 | _=>none
theorem Rd.parts{w:World}{g:zb}{S:Nat->Prop}{p:PV}{u:Value}{cs:List PV}(h:Rd w g S p u)(hp:p.parts=some cs) :
  ∃ us:List Value,u.cells=us.toArray/\cs.length=us.length/\(∀ (i:Nat) (q:PV) (v:Value),cs[i]?=some q->us[i]?=some v->Rd w g S q v)/\∀ v∈us,v.oneCell'=true:=by
 have single:∀ {q:PV},cs=[q]->Rd w g S q u->u.oneCell'=true->u.cells=#[u]->∃ us:List Value,u.cells=us.toArray/\cs.length=us.length/\(∀ (i:Nat) (q:PV) (v:Value),cs[i]?=some q->us[i]?=some v->Rd w g S q v)/\∀ v∈us,v.oneCell'=true:=by
  intro q hq hr h1 hc;refine⟨[u],by simp[hc],by simp[hq],?_,by simpa using h1⟩;intro i r v hr' hv;subst hq
  cases i with
  | zero=>simp at hr' hv;subst hr';subst hv;exact hr
  | succ i=>simp at hr'
 have cells1:∀ {v:Value},v.oneCell'=true->v.cells=#[v]:=fun {v} hv=>by cases v <;> first | rfl | (simp[Value.oneCell'] at hv;done)
 cases h with
 | agg cs' us hl h h1=>
  simp[PV.parts] at hp;subst hp;exact⟨us,rfl,hl,h,h1⟩
 | d hd=>
  simp[PV.parts] at hp;exact single hp.symm (.d hd) hd.one (cells1 hd.one)
 | ref id off blk n h=>simp[PV.parts] at hp;exact single hp.symm (.ref id off blk n h) rfl rfl
 | row id n blk cap h=>simp[PV.parts] at hp;exact single hp.symm (.row id n blk cap h) rfl rfl
 | rowNil id h=>simp[PV.parts] at hp;exact single hp.symm (.rowNil id h) rfl rfl
 | mp id blk n h=>simp[PV.parts] at hp;exact single hp.symm (.mp id blk n h) rfl rfl
 | mpNil id h=>simp[PV.parts] at hp;exact single hp.symm (.mpNil id h) rfl rfl
 | _=>simp[PV.parts] at hp
section
variable{P:Program}{ctx:Ctx}{Q:PQ}{s:PState}
variable{dst:Option Tmp}{ty:TypeId}{pos:String}{after:Array Edge}{gd:Option (Nat×Bool)}
def PState.newO(s:PState)(id:Nat)(o:Ob)(p:PV):PState:={ n:=s.n,sl:=(id,p)::s.sl,objs:=yD id o s.objs }
def PState.setO(s:PState)(id:Nat)(o:Ob):PState:={ s with objs:=yD id o s.objs }
def zpv : Value->PV
 | .slice none 0 0=>.d (.sl [])
 | x=>.d (.v x)
theorem zpv_rd(w:World)(g:zb)(S:Nat->Prop)(x:Value)(h:x.oneCell'=true):Rd w g S (zpv x) x:=by
 unfold zpv
 split
 ·exact .d (.nil none 0 (Nat.zero_le _) (fun _=>rfl))
 ·exact .d (.v x h)
theorem zFa{o:Oper}{id:Nat}(ho:o.dst=some id)(T:TypeId)(cs:List PV)(hf:s.fresh id=true)
  (h:∀ a w g,RelG ctx g s a w->∃ us:List Value,(execOp a.eval o).run P w=.ok (.value (.pointer (some ⟨w.heap.size,0,none⟩))) (w.alloc (.cells us.toArray T))/\cs.length=us.length /\
   (∀ (i:Nat) (p:PV) (u:Value),cs[i]?=some p->us[i]?=some u->Rd w g (zk ctx g s.objs) p u)/\∀ u∈us,u.oneCell'=true)
  (hcs:∀ p∈cs,p.has id=false):Local P ctx o s (s.newO id (.cells T cs) (.ref id 0)):=
 yW fun a w g hg=>by
  obtain⟨us,hrun,hlen,hr,h1⟩:=h a w g hg;refine⟨_,_,hrun,upd g id (some (w.heap.size,0)),?_⟩;have hb:=Below.alloc1 w (.cells us.toArray T);have hst:yV w (w.alloc (.cells us.toArray T)) (zk ctx g s.objs):=⟨hb.size,fun b _ hlt=>hb.block b hlt⟩
  have hF:∀ b,zk ctx g s.objs b->b < w.heap.size->zk ctx (upd g id (some (w.heap.size,0))) (yD id (.cells T cs) s.objs) b:=by
   intro b ⟨h1,h2⟩ hlt;refine⟨h1,fun j o n hl hg'=>?_⟩;rw[zD] at hl
   by_cases hj:j=id
   ·subst hj;rw[zQ] at hg';cases hg';omega
   ·rw[if_neg hj] at hl;rw[ya hj] at hg';exact h2 j o n hl hg'
  have hnew:=hg.new hb hf (some (w.heap.size,0)) (fun b n e=>by cases e;simp) (.cells T cs)
   (.cells T cs w.heap.size 0 us (zQ _ _ _) (heap_alloc_new w _) hlen (fun i p u hp hu=>(hr i p u hp hu).keep hst hF (fun j hj=>ya fun e=>by
    subst e;rw[hcs p (List.mem_of_getElem? hp)] at hj;cases hj)) h1)
  rw[ho];exact hnew.put (some id) (.ref id 0 w.heap.size 0 (zQ _ _ _))
theorem LR.alloc{id:Nat}{T:TypeId}{z:Value}{zs:List Value}(hz:∀ w,(zeroValue T).run P w=.ok z w)(hzs:z.cells=zs.toArray)(h1:(zs.all Value.oneCell')=true)(hf:s.fresh id=true) :
  Local P ctx ⟨some id,.alloc T,ty,pos,after,gd⟩ s (s.newO id (.cells T (zs.map zpv)) (.ref id 0)):=by
 refine zFa (o:=⟨some id,.alloc T,ty,pos,after,gd⟩) rfl T _ hf (fun a w g hg=>⟨zs,?_,by simp,?_,by simpa using h1⟩) ?_
 ·simp[execOp,Instr.alloc,hz,newVar,newRow,hzs,Result.andThen]
 ·intro i p u hp hu;simp[hu] at hp;subst hp;exact zpv_rd w g _ u (by simp at h1;exact h1 u (List.mem_of_getElem? hu))
 ·intro p hp;simp only[List.mem_map] at hp;obtain⟨x,_,rfl⟩:=hp;unfold zpv
  split <;> rfl
theorem LR.box{id:Nat}{T:TypeId}{x:Operand}{p:PV}{cs:List PV}(hx:s.ev x=some p)(hp:p.parts=some cs)(hf:s.fresh id=true)(hcs:cs.all (fun q=>!q.has id)=true) :
  Local P ctx ⟨some id,.box T x,ty,pos,after,gd⟩ s (s.newO id (.cells T cs) (.ref id 0)):=by
 refine zFa (o:=⟨some id,.box T x,ty,pos,after,gd⟩) rfl T _ hf (fun a w g hg=>?_) (by simpa using hcs);obtain⟨us,hus,hlen,hr,h1⟩:=(hg.ev hx).parts hp;exact⟨us,by simp[execOp,Instr.box,newVar,newRow,hus,Result.andThen],hlen,hr,h1⟩
theorem XA{w:World}{T T0:TypeId}{blk o:Nat}{cur vs:List Value}{v:Value}(hh:w.heap[blk]?=some (.cells cur.toArray T0 (0,0)))(hv:v.cells=vs.toArray)(hs:∀ w,(sizeOf T).run P w=.ok vs.length w)(hlen:o+vs.length<=cur.length)
  (h1:∀ u∈vs,u.oneCell'=true):(storeVar T ⟨blk,o,none⟩ v).run P w=.ok () (w.setRow blk (cur.take o++vs++cur.drop (o+vs.length)).toArray):=by
 have:=run_storeCells_at P blk o T0 vs 0 cur.toArray w hh (by simpa using hlen) h1;simp only[Nat.add_zero] at this;simp[storeVar,hs,hv,this]
theorem jM{x y:Operand}{id:Nat}{T T0:TypeId}{ob ob':Ob}(hl:look s.objs id=some ob)
  (h:∀ a w g,RelG ctx g s a w->∃ (blk n:Nat) (cur new:List Value),g id=some (blk,n)/\w.heap[blk]?=some (.cells cur.toArray T0 (0,0))/\(Instr.storeAt T (a.eval x) (a.eval y)).run P w=.ok () (w.setRow blk new.toArray) /\
   (∀ w' ,yV w w' (zk ctx g s.objs)->w'.heap[blk]?=some (.cells new.toArray T0 (0,0))->ObRd w' g (zk ctx g (yD id ob' s.objs)) id ob')) (hdst:dst=none) :
  Local P ctx ⟨dst,.store T x y,ty,pos,after,gd⟩ s (s.setO id ob'):=by
 refine Zv (o:=⟨dst,.store T x y,ty,pos,after,gd⟩) fun a w g hg=>?_
 obtain⟨blk,n,cur,new,hgi,hh,hrun,hob⟩:=h a w g hg;subst hdst;refine⟨w.setRow blk new.toArray,by simp[execOp,hrun,Result.andThen],g,?_⟩;have hown:=hg.own id ob blk n hl hgi;have hother:∀ k,k < w.heap.size->k≠blk->(w.setRow blk new.toArray).heap[k]?=w.heap[k]?:=fun k _ hne=>setRow_other w blk k _ hne
 have hst:yV w (w.setRow blk new.toArray) (zk ctx g s.objs):=⟨by simp,fun b ⟨_,h2⟩ hlt=>hother b hlt fun e=>by subst e;exact h2 id ob n hl hgi⟩
 exact hg.wrote hl hgi rfl rfl rfl (by simp) hother hown.2 (hob _ hst (vC hh))
theorem wW{g:zb}{id:Nat}{ob ob':Ob}(hl:look s.objs id=some ob):∀ b,zk ctx g s.objs b->zk ctx g (yD id ob' s.objs) b:=fun b ⟨h1,h2⟩=>⟨h1,fun j o m hj hg=>by
 rw[zD] at hj
 by_cases e:j=id
 ·subst e;exact h2 j ob m hl hg
 ·rw[if_neg e] at hj;exact h2 j o m hj hg⟩
theorem LR.store{x y:Operand}{id o k:Nat}{T T0:TypeId}{cs ps ns:List PV}{p:PV}(hs:∀ w,(sizeOf T).run P w=.ok k w)(hx:s.ev x=some (.ref id o))(hy:s.ev y=some p)(hp:p.parts=some ps)(hk:ps.length=k)
  (hl:look s.objs id=some (.cells T0 cs)) (hlen:o+k<=cs.length) (hns:cs.take o++ps++cs.drop (o+k)=ns) :
  Local P ctx ⟨none,.store T x y,ty,pos,after,gd⟩ s (s.setO id (.cells T0 ns)):=by
 refine jM (T0:=T0) hl (fun a w g hg=>?_) rfl;have hxv:=hg.ev hx;obtain⟨vs,hvs,hvlen,hvr,hv1⟩:=(hg.ev hy).parts hp
 generalize hv:a.eval x=v at hxv
 cases hxv with
 | ref _ _ blk n hgi=>
  cases hg.objs id _ hl with
  | cells _ _ blk' n' us h' hh hulen hr h1=>
   rw[hgi] at h'
   cases h'
   subst hk;have hst:=XA (P:=P) (T:=T) (o:=o) hh hvs (by rw[<- hvlen];exact hs) (by omega) hv1;refine⟨blk,n,us,us.take o++vs++us.drop (o+vs.length),hgi,hh,by simp[Instr.storeAt,Instr.sureAddr,hst],fun w' hstay hh'=>?_⟩;subst hns;have hF:=wW (ctx:=ctx) (g:=g) (ob':=.cells T0 (cs.take o++ps++cs.drop (o+ps.length))) hl;refine .cells T0 _ blk n _ hgi hh' (by simp[hulen,hvlen]) ?_ ?_
   ·intro i q u hq hu;have key:Rd w g (zk ctx g s.objs) q u:=by
     rw[List.append_assoc,List.getElem?_append] at hq hu
     by_cases h3:i < o
     ·have e1:i < (cs.take o).length:=by simp;omega
      have e2:i < (us.take o).length:=by simp;omega
      rw[if_pos e1] at hq;rw[if_pos e2] at hu;simp only[List.getElem?_take,h3,if_true] at hq hu;exact hr i q u hq hu
     ·have e1:¬ i < (cs.take o).length:=by simp;omega
      have e2:¬ i < (us.take o).length:=by simp;omega
      have l1:(cs.take o).length=o:=by simp;omega
      have l2:(us.take o).length=o:=by simp;omega
      rw[if_neg e1,l1,List.getElem?_append] at hq;rw[if_neg e2,l2,List.getElem?_append] at hu
      by_cases h4:i - o < ps.length
      ·rw[if_pos h4] at hq;rw[if_pos (by omega)] at hu;exact hvr _ q u hq hu
      ·rw[if_neg h4] at hq;rw[if_neg (by omega)] at hu;simp only[List.getElem?_drop] at hq hu;rw[<- hvlen] at hu;exact hr _ q u hq hu
    exact key.keep hstay (fun b hb _=>hF b hb) (fun _ _=>rfl)
   ·intro u hu;simp only[List.append_assoc,List.mem_append] at hu;rcases hu with hu | hu | hu
    ·exact h1 u (List.mem_of_mem_take hu)
    ·exact hv1 u hu
    ·exact h1 u (List.mem_of_mem_drop hu)
theorem LR.storeRp{x y:Operand}{id i o k m:Nat}{T T0:TypeId}{l:List (List DV)}{cs ys ns:List DV}{p:PV}(hs:∀ w,(sizeOf T).run P w=.ok m w)(hx:s.ev x=some (.rp id i o k))(hy:s.ev y=some p)(hp:p.parts=some (ys.map .d))(hm:ys.length=m)
  (hl:look s.objs id=some (.row T0 k l)) (hi:l[i]?=some cs) (hlen:o+m<=k) (hns:cs.take o++ys++cs.drop (o+m)=ns) :
  Local P ctx ⟨none,.store T x y,ty,pos,after,gd⟩ s (s.setO id (.row T0 k (l.set i ns))):=by
 refine jM (T0:=T0) hl (fun a w g hg=>?_) rfl;have hxv:=hg.ev hx;obtain⟨vs,hvs,hvlen,hvr,hv1⟩:=(hg.ev hy).parts hp
 generalize hv:a.eval x=v at hxv
 have hil:i < l.length:=(List.getElem?_eq_some_iff.1 hi).1
 cases hxv with
 | rp _ _ _ _ blk n hgi=>
  cases hg.objs id _ hl with
  | rowNil=>simp at hil
  | row _ _ _ blk' cap cur h' hh hlc hcap hcs hkk hr=>
   rw[hgi] at h'
   cases h'
   subst hm;have hcsk:cs.length=k:=hkk i cs hi;have hvl:vs.length=ys.length:=by simpa using hvlen.symm
   have hroom:i*k+k<=cur.length:=by
    rw[hcs];have:=Nat.mul_le_mul_right k (show i+1<=n by omega);rw[Nat.add_mul,Nat.one_mul] at this;exact this
   have hst:=XA (P:=P) (T:=T) (o:=i*k+o) hh hvs (by rw[hvl];exact hs) (by omega) hv1;refine⟨blk,n,cur,cur.take (i*k+o)++vs++cur.drop (i*k+o+vs.length),hgi,hh,by simp[Instr.storeAt,Instr.sureAddr,hst],fun w' hstay hh'=>?_⟩;subst hns;have hF:=wW (ctx:=ctx) (g:=g) (ob':=.row T0 k (l.set i (cs.take o++ys++cs.drop (o+ys.length)))) hl;have hget:∀ t,(cur.take (i*k+o)++vs++cur.drop (i*k+o+vs.length))[t]?=if t < i*k+o then cur[t]? else if t < i*k+o+vs.length then vs[t - (i*k+o)]? else cur[t]?:=by
    intro t;rw[List.append_assoc,List.getElem?_append];have l1:(cur.take (i*k+o)).length=i*k+o:=by simp;omega
    rw[l1]
    by_cases h3:t < i*k+o
    ·rw[if_pos h3,if_pos h3];simp[h3]
    ·rw[if_neg h3,if_neg h3,List.getElem?_append]
     by_cases h4:t - (i*k+o) < vs.length
     ·rw[if_pos h4,if_pos (by omega)]
     ·rw[if_neg h4,if_neg (by omega),List.getElem?_drop]
      congr 1
      omega
   refine .row T0 k _ blk n _ hgi hh' (by simpa using hlc) hcap (by simp[hcs];omega) ?_ ?_
   ·intro j ds hj;rw[List.getElem?_set] at hj
    by_cases hij:i=j
    ·subst hij;rw[if_pos rfl,if_pos hil] at hj;simp only[Option.some.injEq] at hj;subst hj;simp;omega
    ·rw[if_neg hij] at hj;exact hkk j ds hj
   ·intro j ds t x hj hx;rw[List.getElem?_set] at hj
    by_cases hij:i=j
    ·subst hij;rw[if_pos rfl,if_pos hil] at hj;simp only[Option.some.injEq] at hj;subst hj;rw[List.append_assoc,List.getElem?_append] at hx;have l1:(cs.take o).length=o:=by simp;omega
     rw[l1] at hx;rw[hget]
     by_cases h3:t < o
     ·rw[if_pos h3] at hx;simp[h3] at hx;rw[if_pos (by omega)];obtain⟨u,hu,hd⟩:=hr i cs t x hi hx;exact⟨u,hu,hd.keep hstay fun b hb _=>hF b hb⟩
     ·rw[if_neg h3,List.getElem?_append] at hx;rw[if_neg (by omega)]
      by_cases h4:t - o < ys.length
      ·rw[if_pos h4] at hx;rw[if_pos (by omega)];have e:i*k+t - (i*k+o)=t - o:=by omega
       rw[e];have hlt:t - o < vs.length:=by omega
       refine⟨vs[t - o],List.getElem?_eq_getElem hlt,?_⟩;have:=hvr (t - o) (.d x) vs[t - o] (by simp[hx]) (List.getElem?_eq_getElem hlt)
       cases this with
       | d hd=>exact hd.keep hstay fun b hb _=>hF b hb
      ·rw[if_neg h4,List.getElem?_drop] at hx;rw[if_neg (by omega)];have e:o+ys.length+(t - o - ys.length)=t:=by omega
       rw[e] at hx;obtain⟨u,hu,hd⟩:=hr i cs t x hi hx;exact⟨u,hu,hd.keep hstay fun b hb _=>hF b hb⟩
    ·rw[if_neg hij] at hj;obtain⟨u,hu,hd⟩:=hr j ds t x hj hx;have htk:t < k:=by rw[<- hkk j ds hj];exact(List.getElem?_eq_some_iff.1 hx).1
     refine⟨u,?_,hd.keep hstay fun b hb _=>hF b hb⟩;rw[hget]
     by_cases h5:j < i
     ·have:=Nat.mul_le_mul_right k (show j+1<=i from h5);rw[Nat.add_mul,Nat.one_mul] at this;rw[if_pos (by omega)];exact hu
     ·have:=Nat.mul_le_mul_right k (show i+1<=j by omega);rw[Nat.add_mul,Nat.one_mul] at this;rw[if_neg (by omega),if_neg (by omega)];exact hu
end
end Go.Ep
namespace Go.Ep
open Go.RowKit
structure ElemOK(P:Program)(t e k bs:Nat):Prop where
 u:P.underlying t=some (.slice e)
 i:∃ i z,P.info? e=some i/\i.zero=some z/\i.size=k/\i.bytes=bs/\z.cells.size=k
theorem ElemOK.mk'{P:Program}{t e k bs:Nat}{z:Value}(u:P.underlying t=some (.slice e))(h:(P.info? e).map (fun i=>(i.zero,i.size,i.bytes))=some (some z,k,bs))(hz:z.cells.size=k):ElemOK P t e k bs:=by
 obtain⟨i,h1,h2,h3,h4⟩:=info_parts h;exact⟨u,i,z,h1,h2,h3,h4,hz⟩
theorem ElemOK.sizeOf{P:Program}{t e k bs:Nat}(h:ElemOK P t e k bs)(w:World):(Go.sizeOf e).run P w=.ok k w:=by
 obtain⟨i,z,h1,_,h3,_⟩:=h.i;simp[Go.sizeOf,typeInfo,h1,h3]
def PState.junks(s:PState):List Nat->PState
 | []=>s
 | d::r=>(s.put d .junk).junks r
def PState.alone(s:PState)(id:Nat):Bool:=w3a id s.sl s.sl&&s.objs.all (fun x=>!x.2.has id)
theorem yO(js:List Nat):∀ s:PState,(s.junks js).objs=s.objs:=by
 induction js with
 | nil=>intro s;rfl
 | cons d r ih=>intro s;simp[PState.junks,ih,PState.put]
section
variable{P:Program}{ctx:Ctx}{Q:PQ}{s:PState}
variable{dst:Option Tmp}{ty:TypeId}{pos:String}{after:Array Edge}{gd:Option (Nat×Bool)}
theorem RelG.junks{g:zb}{a:Act}{w:World}(js:List Nat):∀ {s:PState},RelG ctx g s a w->RelG ctx g (s.junks js) a w:=by
 induction js with
 | nil=>intro s h;exact h
 | cons d r ih=>
  intro s h;refine ih ⟨h.defers,h.size,?_,h.objs,h.inj,h.own,h.os,h.tape,h.output,h.grows,h.keep⟩;intro i p hp;rcases Jm s d .junk i p hp with⟨_,rfl⟩ | ⟨_,h2⟩
  ·exact .junk _
  ·exact h.slots i p h2
theorem UA{id:Nat}(h:s.alone id=true){i:Nat}{p:PV}(hp:s.at i=some p):p.has id=false:=by
 simp only[PState.alone,Bool.and_eq_true] at h;exact yKa h.1 hp
theorem zGa{id:Nat}(h:s.alone id=true){j:Nat}{o:Ob}(ho:look s.objs j=some o):o.has id=false:=by
 simp only[PState.alone,Bool.and_eq_true,List.all_eq_true] at h;simpa using h.2 _ (xi ho)
theorem RelG.reown{g:zb}{a:Act}{w w':World}(h:RelG ctx g s a w){id:Nat}{o0 ob:Ob}(hl:look s.objs id=some o0)(ha:s.alone id=true)(gv:Option (Nat×Nat))
  (hos:w'.os=w.os) (htape:w'.tape=w.tape) (hout:w'.output=w.output) (hsize:w.heap.size<=w'.heap.size) (hother:∀ k,k < w.heap.size->(∀ n,g id≠some (k,n))->w'.heap[k]?=w.heap[k]?)
  (hgv:∀ b n,gv=some (b,n)->(∃ n',g id=some (b,n'))\/(w.heap.size<=b/\b < w'.heap.size))
  (ho:ObRd w' (upd g id gv) (zk ctx (upd g id gv) (yD id ob s.objs)) id ob):RelG ctx (upd g id gv) (s.setO id ob) a w':=by
 have hF:∀ b,zk ctx g s.objs b->b < w.heap.size->zk ctx (upd g id gv) (yD id ob s.objs) b:=by
  intro b ⟨h1,h2⟩ hlt;refine⟨h1,fun j o m hj hg=>?_⟩;rw[zD] at hj
  by_cases e:j=id
  ·subst e;rw[zQ] at hg;rcases hgv b m hg with⟨n',hn⟩ | ⟨h3,_⟩
   ·exact h2 j o0 n' hl hn
   ·omega
  ·rw[if_neg e] at hj;rw[ya e] at hg;exact h2 j o m hj hg
 have hst:yV w w' (zk ctx g s.objs):=⟨hsize,fun b ⟨_,h2⟩ hlt=>hother b hlt fun n e=>h2 id o0 n hl e⟩
 have hne:∀ {i:Nat} {p:PV},s.at i=some p->∀ j,p.has j=true->upd g id gv j=g j:=fun hp j hj=>ya fun e=>by
  subst e;rw[UA ha hp] at hj;cases hj
 refine⟨h.defers,h.size,fun i p hp=>(h.slots i p hp).keep hst hF (hne hp),?_,?_,?_,hos.trans h.os,htape.trans h.tape,hout.trans h.output,Nat.le_trans h.grows hsize,?_⟩
 ·intro j o hj;have hj0:=hj;simp only[PState.setO] at hj;rw[zD] at hj
  by_cases e:j=id
  ·subst e;rw[if_pos rfl] at hj;cases hj;exact ho
  ·rw[if_neg e] at hj;refine(h.objs j o hj).keep hst hF (fun b m hg=>hother b (h.own j o b m hj hg).1 fun n en=>e (h.inj j id o o0 b m n hj hl hg en)) (ya e) (fun i hi=>ya fun ei=>?_);subst ei;rw[zGa ha hj] at hi;cases hi
 ·intro i j oi oj b n m hi hj hgi hgj;simp only[PState.setO] at hi hj;rw[zD] at hi hj
  by_cases h1:i=id <;> by_cases h2:j=id
  ·exact h1.trans h2.symm
  ·subst h1;rw[zQ] at hgi;rw[if_neg h2] at hj;rw[ya h2] at hgj;rcases hgv b n hgi with⟨n',hn⟩ | ⟨h3,_⟩
   ·exact h.inj i j o0 oj b n' m hl hj hn hgj
   ·have:=(h.own j oj b m hj hgj).1;omega
  ·subst h2;rw[zQ] at hgj;rw[if_neg h1] at hi;rw[ya h1] at hgi;rcases hgv b m hgj with⟨n',hn⟩ | ⟨h3,_⟩
   ·exact h.inj i j oi o0 b n n' hi hl hgi hn
   ·have:=(h.own i oi b n hi hgi).1;omega
  ·rw[if_neg h1] at hi;rw[if_neg h2] at hj;rw[ya h1] at hgi;rw[ya h2] at hgj;exact h.inj i j oi oj b n m hi hj hgi hgj
 ·intro j o b n hj hg;simp only[PState.setO] at hj;rw[zD] at hj
  by_cases e:j=id
  ·subst e;rw[zQ] at hg;rcases hgv b n hg with⟨n',hn⟩ | ⟨h3,h4⟩
   ·have:=h.own j o0 b n' hl hn;exact⟨Nat.lt_of_lt_of_le this.1 hsize,this.2⟩
   ·exact⟨h4,.inl (Nat.le_trans h.grows h3)⟩
  ·rw[if_neg e] at hj;rw[ya e] at hg;have:=h.own j o b n hj hg;exact⟨Nat.lt_of_lt_of_le this.1 hsize,this.2⟩
 ·intro k hk hK;rw[hother k (Nat.lt_of_lt_of_le hk h.grows) fun n e=>?_]
  ·exact h.keep k hk hK
  ·rcases(h.own id o0 k n hl e).2 with h1 | h1
   ·omega
   ·exact hK h1
def Src(ctx:Ctx)(s:PState)(y:Operand)(ys:List (List DV))(k:Nat):Prop:=∀ a w g,RelG ctx g s a w ->
 ∃ (ao:Option Addr) (c:Nat) (news:List Value),a.eval y=.slice ao ys.length c/\news.length=ys.length*k/\(ao=none->ys.length=0/\c=0)/\(∀ ad,ao=some ad->∀ j u,news[j]?=some u->w.cell? (ad.add j)=some u) /\
  (∀ u∈news,u.oneCell'=true)/\∀ (i:Nat) (cs:List DV) (j:Nat) (x:DV),ys[i]?=some cs->cs[j]?=some x->∃ u,news[i*k+j]?=some u/\DRd w (zk ctx g s.objs) x u
theorem vl{i j n k:Nat}(hi:i < n)(hj:j < k):i*k+j < n*k:=by
 have:=Nat.mul_le_mul_right k (show i+1<=n from hi);rw[Nat.add_mul,Nat.one_mul] at this;omega
theorem Wz{t n k : Nat}(h : t < n*k) : 0 < k/\t / k < n/\t % k < k/\t / k*k+t % k=t := by
  have hk : 0 < k := by rcases Nat.eq_zero_or_pos k with h0 | h0; · subst h0; simp at h
                        · exact h0
  refine⟨hk, Nat.div_lt_of_lt_mul (by rwa [Nat.mul_comm] at h), Nat.mod_lt _ hk, ?_⟩;rw[Nat.mul_comm]; exact Nat.div_add_mod t k
theorem Src.sl{y:Operand}{ys:List (List DV)}{k:Nat}(hy:s.ev y=some (.d (.sl ys)))(hk:∀ (i:Nat) (cs:List DV),ys[i]?=some cs->cs.length=k):Src ctx s y ys k:=by
 intro a w g hg;have h:=hg.ev hy
 generalize hv:a.eval y=v at h
 cases h with
 | d h=>
  cases h with
  | nil ao cap hc hn=>exact⟨ao,cap,[],rfl,by simp,fun e=>⟨rfl,hn e⟩,by simp,by simp,by simp⟩
  | sl _ b off cap k' c hl hcap hS hb hkk hc hr=>
   by_cases h0:ys.length=0
   ·have:ys=[]:=List.eq_nil_of_length_eq_zero h0;subst this;exact⟨some ⟨b,off,none⟩,cap,[],rfl,by simp,by simp,by simp,by simp,by simp⟩
   ·have hk':k'=k:=by
     have hlt:0 < ys.length:=by omega
     rw[<- hkk 0 _ (List.getElem?_eq_getElem hlt),hk 0 _ (List.getElem?_eq_getElem hlt)]
    subst hk'
    let news:List Value:=(List.range (ys.length*k')).map fun t=>c (t / k') (t % k')
    have hnl:news.length=ys.length*k':=by simp[news]
    have hget:∀ t,t < ys.length*k'->news[t]?=some (c (t / k') (t % k')):=fun t ht=>by simp[news,ht]
    refine⟨some ⟨b,off,none⟩,cap,news,rfl,hnl,by simp,?_,?_,?_⟩
    ·intro ad e t u hu
     cases e
     have ht:t < ys.length*k':=by rw[<- hnl];exact(List.getElem?_eq_some_iff.1 hu).1
     rw[hget t ht] at hu
     cases hu
     obtain⟨_,h1,h2,h3⟩:=Wz ht;rw[Addr.add_lit,<- hc _ _ h1 h2,h3]
    ·intro u hu;simp only[news,List.mem_map,List.mem_range] at hu;obtain⟨t,ht,rfl⟩:=hu;obtain⟨_,h1,h2,h3⟩:=Wz ht;have hlen:(ys[t / k']'h1).length=k':=hkk _ _ (List.getElem?_eq_getElem h1);exact(hr (t / k') _ (t % k') _ (List.getElem?_eq_getElem h1) (List.getElem?_eq_getElem (by omega))).one
    ·intro i cs j x hi hx;have h1:i < ys.length:=(List.getElem?_eq_some_iff.1 hi).1;have h2:j < k':=by rw[<- hkk i cs hi];exact(List.getElem?_eq_some_iff.1 hx).1
     refine⟨c i j,?_,hr i cs j x hi hx⟩;rw[hget _ (vl h1 h2)];have e1:(i*k'+j) / k'=i:=by
      rw[Nat.mul_comm,Nat.mul_add_div (by omega),Nat.div_eq_of_lt h2,Nat.add_zero]
     have e2:(i*k'+j) % k'=j:=by rw[Nat.mul_comm,Nat.mul_add_mod,Nat.mod_eq_of_lt h2]
     rw[e1,e2]
theorem Src.row{y:Operand}{id m k:Nat}{T:TypeId}{ys:List (List DV)}(hy:s.ev y=some (.row id m))(hl:look s.objs id=some (.row T k ys))(hm:ys.length=m):Src ctx s y ys k:=by
 intro a w g hg;have h:=hg.ev hy;have hob:=hg.objs id _ hl
 generalize hv:a.eval y=v at h
 cases hob with
 | rowNil _ _ hn=>
  cases h with
  | row _ _ blk cap hgi=>rw[hn] at hgi;cases hgi
  | rowNil=>exact⟨none,0,[],rfl,by simp,by simp,by simp,by simp,by simp⟩
 | row _ _ _ blk' cap' cur hgi hh hlc hcap hcs hkk hr=>
  cases h with
  | rowNil _ hn=>rw[hn] at hgi;cases hgi
  | row _ _ blk cap hgi'=>
   rw[hgi] at hgi'
   cases hgi'
   subst hm;have hcl:ys.length*k<=cur.length:=by rw[hcs];exact Nat.mul_le_mul_right k hlc
   refine⟨some ⟨blk',0,none⟩,cap',cur.take (ys.length*k),rfl,by simp;omega,by simp,?_,?_,?_⟩
   ·intro ad e t u hu
    cases e
    rw[Addr.add_lit,zU hh];simp only[List.getElem?_take] at hu
    split at hu
    ·simpa using hu
    ·cases hu
   ·intro u hu;obtain⟨t,ht,hu'⟩:=List.getElem_of_mem hu;have ht':t < ys.length*k:=by simp at ht;omega
    obtain⟨_,h1,h2,h3⟩:=Wz ht';have hlen:(ys[t / k]'h1).length=k:=hkk _ _ (List.getElem?_eq_getElem h1);obtain⟨u',hu1,hd⟩:=hr (t / k) _ (t % k) _ (List.getElem?_eq_getElem h1) (List.getElem?_eq_getElem (by omega:t % k < (ys[t / k]'h1).length));rw[h3] at hu1;have:u=u':=by
     rw[<- hu'];simp only[List.getElem_take];have:=List.getElem?_eq_some_iff.1 hu1;obtain⟨_,h⟩:=this;exact h
    rw[this];exact hd.one
   ·intro i cs j x hi hx;obtain⟨u,hu,hd⟩:=hr i cs j x hi hx;have h1:i < ys.length:=(List.getElem?_eq_some_iff.1 hi).1;have h2:j < k:=by rw[<- hkk i cs hi];exact(List.getElem?_eq_some_iff.1 hx).1
    exact⟨u,by rw[List.getElem?_take,if_pos (vl h1 h2)];exact hu,hd⟩
theorem WU(z:Array Value)(n:Nat):(Builtin.zeroCells z n).size=n*z.size:=by simp[Builtin.zeroCells]
theorem Jq(z:Array Value)(n:Nat):(Builtin.zeroCells z n).toList.length=n*z.size:=by simp[WU]
theorem arr_app(l:List Value)(a:Array Value):(l++a.toList).toArray=l.toArray++a:=by simp
theorem arr_app2(l m:List Value)(a:Array Value):(l++m++a.toList).toArray=l.toArray++m.toArray++a:=by simp
theorem XB{t ty e:TypeId}{k bs:Nat}(hE:ElemOK P t e k bs)(w:World)(ao:Option Addr)(n cap c:Nat)(hnc:n<=cap)(h0:ao=none->n=0/\cap=0) :
  (Builtin.append_ #[t,t] ty #[.slice ao n cap,.slice none 0 c]).run P w=.ok (.slice ao n cap) w:=by
 obtain⟨i,z,hi,_⟩:=hE.i
 cases ao with
 | none=>obtain⟨rfl,rfl⟩:=h0 rfl;simp[Builtin.append_,run_underlying hE.u,sizeOf,typeInfo,hi,Builtin.lenOf,Builtin.firstCells]
 | some ad=>simp[Builtin.append_,run_underlying hE.u,sizeOf,typeInfo,hi,Builtin.lenOf,Builtin.firstCells,hnc,storeCells]
theorem zHa{t t' ty e e':TypeId}(hu:P.underlying t=some (.slice e))(hu':P.underlying t'=some (.slice e'))(s x:Value)(w:World):(Builtin.append_ #[t,t'] ty #[s,x]).run P w=(Builtin.append_ #[t,t] ty #[s,x]).run P w:=by
 cases s <;> simp[Builtin.append_,run_underlying hu]
 case slice=>
  generalize (sizeOf e).run P w=r
  cases r with
  | ok k w'=>simp[run_underlying hu']
  | halt h w'=>rfl
theorem jN{x y:Operand}{id n k bs:Nat}{t t' e e':TypeId}{l ys:List (List DV)}(js:List Nat)(hE:ElemOK P t e k bs)(hu':P.underlying t'=some (.slice e'))(hl:look s.objs id=some (.row e k l))(hn:l.length=n)
  (hy:Src ctx s y ys k) (hyk:∀ (i:Nat) (cs:List DV),ys[i]?=some cs->cs.length=k) (hb:(n+ys.length)*bs<=140737488355328) (hmax:n+ys.length<=140737488355328) (ha:(s.junks js).alone id=true) {a:Act} {w:World} {g:zb} (hg:RelG ctx g s a w) (hx0:Rd w g (zk ctx g s.objs) (.row id n) (a.eval x)) :
  ∃ v w',(execOp a.eval ⟨dst,.call ⟨.builtin .append,#[x,y],#[t,t']⟩,ty,pos,after,gd⟩).run P w=.ok (.value v) w'/\Rel ctx (((s.junks js).setO id (.row e k (l++ys))).putD dst (.row id (n+ys.length))) (a.put dst v) w':=by
 obtain⟨ao,c,news,hyv,hnl,hnone,hsome,h1,hyr⟩:=hy a w g hg;obtain⟨i,z,hi,hz,hsize,hbytes,hzs⟩:=hE.i;have hxv:=hx0;have hob:=hg.objs id _ hl;have hexec:∀ v,a.eval x=v->∀ r w',(Builtin.append_ #[t,t] ty #[v,.slice ao ys.length c]).run P w=.ok r w'->(execOp a.eval ⟨dst,.call ⟨.builtin .append,#[x,y],#[t,t']⟩,ty,pos,after,gd⟩).run P w=.ok (.value r) w':=fun v hv r w' hr=>by
  have hr':=(zHa (P:=P) (ty:=ty) hE.u hu' v (.slice ao ys.length c) w).trans hr;simp[execOp,resolve,invoke,builtin,hv,hyv,hr',Result.andThen]
 have hgj:=hg.junks js;have hlj:look (s.junks js).objs id=some (.row e k l):=by rw[yO];exact hl
 have hml:n+ys.length<=maxLen:=by unfold maxLen;omega
 -- the new row, wherever it lies
 have build:∀ (w':World) (blk cap:Nat) (cur:List Value),w'.os=w.os->w'.tape=w.tape->w'.output=w.output->w.heap.size<=w'.heap.size->(∀ k,k < w.heap.size->(∀ n,g id≠some (k,n))->w'.heap[k]?=w.heap[k]?) ->
   ((∃ n',g id=some (blk,n'))\/(w.heap.size<=blk/\blk < w'.heap.size))->w'.heap[blk]?=some (.cells cur.toArray e (0,0))->n+ys.length<=cap->cap<=maxLen->cur.length=cap*k ->
   (∀ (i:Nat) (cs:List DV) (j:Nat) (x:DV),l[i]?=some cs->cs[j]?=some x->∃ u,cur[i*k+j]?=some u/\DRd w (zk ctx g s.objs) x u) ->
   (∀ (i:Nat) (cs:List DV),l[i]?=some cs->cs.length=k) ->
   (∀ t,t < ys.length*k->cur[n*k+t]?=news[t]?) ->
   Rel ctx (((s.junks js).setO id (.row e k (l++ys))).putD dst (.row id (n+ys.length))) (a.put dst (.slice (some ⟨blk,0,none⟩) (n+ys.length) cap)) w':=by
  intro w' blk cap cur hos htape hout hsz hother hblk hh hcapn hcapm hcl hold hlk hnew;have hre:=hgj.reown hlj ha (some (blk,cap)) (ob:=.row e k (l++ys)) hos htape hout hsz hother (fun b m eb=>by cases eb;exact hblk) (by
   have hst:yV w w' (zk ctx g (s.junks js).objs):=⟨hsz,fun b ⟨_,h2⟩ hlt=>hother b hlt fun m em=>h2 id _ m hlj em⟩
   have hF:∀ b,zk ctx g (s.junks js).objs b->b < w.heap.size->zk ctx (upd g id (some (blk,cap))) (yD id (.row e k (l++ys)) (s.junks js).objs) b:=by
    intro b ⟨h1,h2⟩ hlt;refine⟨h1,fun j o m hj hgm=>?_⟩;rw[zD] at hj
    by_cases ej:j=id
    ·subst ej;rw[zQ] at hgm
     cases hgm
     rcases hblk with⟨n',hn'⟩ | ⟨h3,_⟩
     ·exact h2 j _ n' hlj hn'
     ·omega
    ·rw[if_neg ej] at hj;rw[ya ej] at hgm;exact h2 j o m hj hgm
   rw[yO] at hst hF ⊢;refine .row e k _ blk cap cur (zQ _ _ _) hh (by rw[List.length_append,hn];exact hcapn) hcapm hcl ?_ ?_
   ·intro i cs hi;rw[List.getElem?_append] at hi
    split at hi
    ·exact hlk i cs hi
    ·exact hyk _ cs hi
   ·intro i cs j x hi hx;rw[List.getElem?_append] at hi
    split at hi
    ·obtain⟨u,hu,hd⟩:=hold i cs j x hi hx;exact⟨u,hu,hd.keep hst hF⟩
    ·rename_i hge
     obtain⟨u,hu,hd⟩:=hyr _ cs j x hi hx;refine⟨u,?_,hd.keep hst hF⟩;have h3:i - l.length < ys.length:=(List.getElem?_eq_some_iff.1 hi).1;have h4:j < k:=by rw[<- hyk _ cs hi];exact(List.getElem?_eq_some_iff.1 hx).1
     have e1:i*k+j=n*k+((i - l.length)*k+j):=by
      have:i=n+(i - l.length):=by omega
      conv=>lhs;rw[this,Nat.add_mul]
      omega
     rw[e1,hnew _ (vl h3 h4)];exact hu)
  exact⟨_,hre.put dst (.row id _ blk cap (zQ _ _ _))⟩
 generalize hv:a.eval x=v at hxv
 have sameW:∀ k,k < w.heap.size->(∀ n,g id≠some (k,n))->w.heap[k]?=w.heap[k]?:=fun _ _ _=>rfl
 -- nothing is appended, from nil: the slice stays
 have emptyCase:ao=none->Rel ctx (((s.junks js).setO id (.row e k (l++ys))).putD dst (.row id (n+ys.length))) (a.put dst v) w:=by
  intro e0;obtain⟨hy0,_⟩:=hnone e0;have hys:ys=[]:=List.eq_nil_of_length_eq_zero hy0;subst hys;have hsame:(s.junks js).setO id (.row e k (l++[]))=(s.junks js).setO id (.row e k l):=by simp
  rw[hsame];have hgv:∀ b m,g id=some (b,m)->(∃ n',g id=some (b,n'))\/(w.heap.size<=b/\b < w.heap.size):=fun b m eb=>.inl ⟨m,eb⟩
  have hre:=hgj.reown hlj ha (g id) (ob:=.row e k l) rfl rfl rfl (Nat.le_refl _) sameW hgv (by
   have hupd:upd g id (g id)=g:=by funext j;unfold upd;split <;> simp_all
   rw[hupd,yO];have hst:yV w w (zk ctx g s.objs):=⟨Nat.le_refl _,fun _ _ _=>rfl⟩
   exact hob.keep hst (fun b hb _=>wW hl b hb) (fun _ _ _=>rfl) rfl (fun _ _=>rfl))
  have hupd:upd g id (g id)=g:=by funext j;unfold upd;split <;> simp_all
  rw[hupd] at hre;refine⟨_,hre.put dst ?_⟩;have:=hx0;rw[hv] at this;simp only[List.length_nil,Nat.add_zero]
  cases this with
  | row _ _ blk cap h=>exact .row id n blk cap h
  | rowNil _ h=>exact .rowNil id h
 cases hob with
 | rowNil _ _ hgn=>
  cases hxv with
  | row _ _ blk cap hgi=>rw[hgn] at hgi;cases hgi
  | rowNil=>
   simp at hn
   cases ao with
   | none=>
    obtain⟨hy0,hc0⟩:=hnone rfl;have hr:=XB (P:=P) (ty:=ty) hE w none 0 0 c (Nat.le_refl _) (fun _=>⟨rfl,rfl⟩);exact⟨_,_,hexec _ hv _ _ (by rw[hy0];exact hr),emptyCase rfl⟩
   | some ad=>
    by_cases hm0:ys.length=0
    ·have hys:ys=[]:=List.eq_nil_of_length_eq_zero hm0;subst hys;have hnn:news=[]:=List.eq_nil_of_length_eq_zero (by simpa using hnl);have hr:(Builtin.append_ #[t,t] ty #[.slice none 0 0,.slice (some ad) 0 c]).run P w=.ok (.slice none 0 0) w:=by
      simp[Builtin.append_,run_underlying hE.u,sizeOf,typeInfo,hi,Builtin.lenOf,Builtin.firstCells,loadCells,loadCellsFrom]
     refine⟨_,_,hexec _ hv _ _ hr,g,?_⟩;have hre:=hgj.reown hlj ha none (ob:=.row e k ([]++[])) rfl rfl rfl (Nat.le_refl _) sameW (fun b m eb=>by cases eb) (.rowNil e k (zQ _ _ _));have hupd:upd g id none=g:=by funext j;unfold upd;split <;> simp_all
     rw[hupd] at hre;exact hre.put dst (.rowNil id hgn)
    ·have hr:=run_append_nil (P:=P) w t ty e i z hE.u hi hz ad ys.length c news (by rw[hsize];exact hnl) (hsome ad rfl) (by omega) (by omega) (by rw[hbytes];simp at hb;omega);refine⟨_,_,hexec _ hv _ _ hr,?_⟩;have hge:=grownCap_ge w ys.length 0 e;have hcm:=grownCap_le_maxLen w ys.length 0 e (by omega);have hx0:=build (w.drew.alloc (.cells (news.toArray++Builtin.zeroCells z.cells (grownCap w ys.length 0 e - ys.length)) e)) w.heap.size (grownCap w ys.length 0 e) (news++(Builtin.zeroCells z.cells (grownCap w ys.length 0 e - ys.length)).toList)
      rfl rfl rfl (by simp) (fun k hk _=>heap_alloc_old w.drew _ hk) (.inr ⟨Nat.le_refl _,by simp⟩) (by
       rw[arr_app];exact heap_alloc_new w.drew _) (by omega) hcm (by
       rw[List.length_append,hnl,Jq,hzs,<- Nat.add_mul];congr 1;omega)
      (by simp) (by simp) (fun t ht=>by simp only[Nat.zero_mul,Nat.zero_add];rw[List.getElem?_append_left (by omega)])
     simpa using hx0
 | row _ _ _ blk' cap' cur hgi hh hlc hcap hcs hkk hr=>
  cases hxv with
  | rowNil _ hgn=>rw[hgn] at hgi;cases hgi
  | row _ _ blk cap hgi'=>
   rw[hgi] at hgi'
   cases hgi'
   cases ao with
   | none=>
    obtain⟨hy0,hc0⟩:=hnone rfl;have hrun:=XB (P:=P) (ty:=ty) hE w (some ⟨blk',0,none⟩) n cap' c (by omega) (by simp);exact⟨_,_,hexec _ hv _ _ (by rw[hy0];exact hrun),emptyCase rfl⟩
   | some ad=>
    have hcl:n*k<=cur.length:=by rw[hcs];exact Nat.mul_le_mul_right k (by omega)
    have hlen1:(cur.take (n*k)).length=n*k:=by simp;omega
    by_cases hroom:n+ys.length<=cap'
    ·have hfit:n*k+news.length<=cur.length:=by rw[hnl,hcs,<- Nat.add_mul];exact Nat.mul_le_mul_right k hroom
     have hrun:=run_append_room (P:=P) w t ty e i hE.u hi blk' n cap' cur.toArray hh ad ys.length c news (by rw[hsize];exact hnl) (hsome ad rfl) h1 hroom (by rw[hsize];simpa using hfit);rw[hsize] at hrun;refine⟨_,_,hexec _ hv _ _ hrun,?_⟩;refine build _ blk' cap' (cur.take (n*k)++news++cur.drop (n*k+news.length)) rfl rfl rfl (by simp) (fun k hk hne=>setRow_other w blk' k _ fun ek=>by subst ek;exact hne cap' hgi) (.inl ⟨cap',hgi⟩) (by
      have:=vC (cs:=(cur.take (n*k)++news++cur.drop (n*k+news.length)).toArray) hh;simpa using this) hroom hcap (by simp only[List.length_append,hlen1,List.length_drop];omega) ?_ hkk ?_
     ·intro i' cs j x hi' hx';obtain⟨u,hu,hd⟩:=hr i' cs j x hi' hx';have h3:i' < n:=by rw[<- hn];exact(List.getElem?_eq_some_iff.1 hi').1
      have h4:j < k:=by rw[<- hkk i' cs hi'];exact(List.getElem?_eq_some_iff.1 hx').1
      have:=vl h3 h4;refine⟨u,?_,hd⟩;rw[List.append_assoc,List.getElem?_append_left (by omega),List.getElem?_take,if_pos this];exact hu
     ·intro t' ht';rw[List.append_assoc,List.getElem?_append_right (by omega),hlen1,List.getElem?_append_left (by omega)]
      congr 1
      omega
    ·have holds:∀ j v,(cur.take (n*k))[j]?=some v->w.cell? ((⟨blk',0,none⟩:Addr).add j)=some v:=fun j v hj=>by
      rw[Addr.add_lit,zU hh];simp only[List.getElem?_take] at hj
      split at hj
      ·simpa using hj
      ·cases hj
     have hrun:=run_append_grow (P:=P) w t ty e i z hE.u hi hz ⟨blk',0,none⟩ n cap' (cur.take (n*k)) (by rw[hsize];exact hlen1) holds ad ys.length c news (by rw[hsize];exact hnl) (hsome ad rfl) (by omega) (by omega) (growslice_fits (by omega) (by rw[hbytes];exact hb));refine⟨_,_,hexec _ hv _ _ hrun,?_⟩;have hge:=grownCap_ge w (n+ys.length) cap' e;have hcm:=grownCap_le_maxLen w (n+ys.length) cap' e hml;refine build _ w.heap.size (grownCap w (n+ys.length) cap' e) (cur.take (n*k)++news++(Builtin.zeroCells z.cells (grownCap w (n+ys.length) cap' e - (n+ys.length))).toList)
      rfl rfl rfl (by simp) (fun k hk _=>heap_alloc_old w.drew _ hk) (.inr ⟨Nat.le_refl _,by simp⟩) (by
       rw[arr_app2];exact heap_alloc_new w.drew _) hge hcm (by
       rw[List.length_append,List.length_append,hlen1,hnl,Jq,hzs,<- Nat.add_mul,<- Nat.add_mul];congr 1;omega) ?_ hkk ?_
     ·intro i' cs j x hi' hx';obtain⟨u,hu,hd⟩:=hr i' cs j x hi' hx';have h3:i' < n:=by rw[<- hn];exact(List.getElem?_eq_some_iff.1 hi').1
      have h4:j < k:=by rw[<- hkk i' cs hi'];exact(List.getElem?_eq_some_iff.1 hx').1
      have:=vl h3 h4;refine⟨u,?_,hd⟩;rw[List.append_assoc,List.getElem?_append_left (by omega),List.getElem?_take,if_pos this];exact hu
     ·intro t' ht';rw[List.append_assoc,List.getElem?_append_right (by omega),hlen1,List.getElem?_append_left (by omega)]
      congr 1
      omega
theorem LR.append{x y:Operand}{id n k bs:Nat}{t t' e e':TypeId}{l ys:List (List DV)}(js:List Nat)(hE:ElemOK P t e k bs)(hu':P.underlying t'=some (.slice e'))(hx:s.ev x=some (.row id n))(hl:look s.objs id=some (.row e k l))(hn:l.length=n)
  (hy:Src ctx s y ys k) (hyk:∀ (i:Nat) (cs:List DV),ys[i]?=some cs->cs.length=k) (hb:(n+ys.length)*bs<=140737488355328) (hmax:n+ys.length<=140737488355328) (ha:(s.junks js).alone id=true) :
  Local P ctx ⟨dst,.call ⟨.builtin .append,#[x,y],#[t,t']⟩,ty,pos,after,gd⟩ s (((s.junks js).setO id (.row e k (l++ys))).putD dst (.row id (n+ys.length))):=
 yW (o:=⟨dst,.call ⟨.builtin .append,#[x,y],#[t,t']⟩,ty,pos,after,gd⟩) fun _ _ _ hg=>jN js hE hu' hl hn hy hyk hb hmax ha hg (hg.ev hx)
end
end Go.Ep
namespace Go.Ep
open Go.RowKit
def dl : List PV->Option (List DV)
 | []=>some []
 | .d x::r=>match dl r with | some l=>some (x::l) | none=>none
 | _::_=>none
def PV.dparts : PV->Option (List DV)
 | .d x=>some [x]
 | .agg cs=>dl cs
 | _=>none
theorem dl_map : ∀ {cs:List PV} {l:List DV},dl cs=some l->cs=l.map .d
 | [],l,h=>by simp[dl] at h;subst h;rfl
 | .d x::r,l,h=>by
  unfold dl at h
  cases hr:dl r with
  | none=>simp[hr] at h
  | some l'=>simp[hr] at h;subst h;simp[dl_map hr]
 | .junk::_,_,h=>by simp[dl] at h
 | .und::_,_,h=>by simp[dl] at h
 | .agg _::_,_,h=>by simp[dl] at h
 | .tup _::_,_,h=>by simp[dl] at h
 | .ref _ _::_,_,h=>by simp[dl] at h
 | .row _ _::_,_,h=>by simp[dl] at h
 | .rp _ _ _ _::_,_,h=>by simp[dl] at h
 | .pc _ _ _ _::_,_,h=>by simp[dl] at h
 | .ep _ _::_,_,h=>by simp[dl] at h
 | .mp _::_,_,h=>by simp[dl] at h
 | .md _ _ _::_,_,h=>by simp[dl] at h
theorem PV.dparts_parts{p:PV}{l:List DV}(h:p.dparts=some l):p.parts=some (l.map .d):=by
 cases p <;> simp[PV.dparts] at h
 case d x=>subst h;rfl
 case agg cs=>rw[dl_map h];rfl
def zdv : Value->DV
 | .slice none 0 0=>.sl []
 | x=>.v x
theorem vAa(w:World)(S:Nat->Prop)(x:Value)(h:x.oneCell'=true):DRd w S (zdv x) x:=by
 unfold zdv
 split
 ·exact .nil none 0 (Nat.zero_le _) (fun _=>rfl)
 ·exact .v x h
def PV.isData : PV->Bool
 | .d _=>true
 | .md ..=>true
 | .ep ..=>true
 | .clo ..=>true
 | .agg cs=>isDataL cs
 | .tup cs=>isDataL cs
 | _=>false
where isDataL:List PV->Bool
 | []=>true
 | c::r=>c.isData&&isDataL r
theorem YO : ∀ {cs:List PV} {i:Nat} {p:PV},PV.isData.isDataL cs=true->cs[i]?=some p->p.isData=true
 | [],i,p,_,h=>by simp at h
 | c::r,0,p,hh,h=>by simp at h;subst h;simp[PV.isData.isDataL] at hh;exact hh.1
 | c::r,i+1,p,hh,h=>by simp at h;simp[PV.isData.isDataL] at hh;exact YO hh.2 h
theorem Rd.data{w:World}{g:zb}{S:Nat->Prop}{p:PV}{u:Value}(h:Rd w g S p u)(hd:p.isData=true)(g':zb):Rd w g' S p u:=by
 induction h with
 | junk u=>simp[PV.isData] at hd
 | d h=>exact .d h
 | md ks ag m bs ck b es hs hb hh hm=>exact .md ks ag m bs ck b es hs hb hh hm
 | mdNil ks ag=>exact .mdNil ks ag
 | ep cs b off o c hS hb hc hr=>exact .ep cs b off o c hS hb hc hr
 | clo f cs us hl h=>exact .clo f cs us hl h
 | agg cs us hl h h1 ih=>exact .agg cs us hl (fun i p u hp hu=>ih i p u hp hu (YO (by simpa[PV.isData] using hd) hp)) h1
 | tup cs us hl h ih=>exact .tup cs us hl (fun i p u hp hu=>ih i p u hp hu (YO (by simpa[PV.isData] using hd) hp))
 | _=>simp[PV.isData] at hd
abbrev g0 : zb:=fun _=>none
def PFun(P:Program)(f:FuncId)(ps:List PV)(r:PV):Prop:=
 ∀ (w:World) (S:Nat->Prop) (vs:List Value),ps.length=vs.length->(∀ (i:Nat) (p:PV) (v:Value),ps[i]?=some p->vs[i]?=some v->Rd w g0 S p v) ->
  Calls P f vs.toArray w (fun e w'=>∃ u,e=.returned u/\Below w.heap.size w w'/\Rd w' g0 (fun b=>S b\/w.heap.size<=b) r u)
inductive RowRd (w:World) (S:Nat->Prop) (base:Nat) (e:TypeId) (k:Nat):List (List DV)->Value->Prop
 | nil:RowRd w S base e k [] (.slice none 0 0)
 | row (l:List (List DV)) (blk cap:Nat) (cur:List Value) (hb:base<=blk) (hh:w.heap[blk]?=some (.cells cur.toArray e (0,0)))
   (hlc:l.length<=cap) (hcap:cap<=maxLen) (hcs:cur.length=cap*k) (hk:∀ (i:Nat) (cs:List DV),l[i]?=some cs->cs.length=k)
   (hr:∀ (i:Nat) (cs:List DV) (j:Nat) (x:DV),l[i]?=some cs->cs[j]?=some x->∃ u,cur[i*k+j]?=some u/\DRd w (fun b=>(S b\/base<=b)/\b≠blk) x u):RowRd w S base e k l (.slice (some ⟨blk,0,none⟩) l.length cap)
def PRow(P:Program)(f:FuncId)(ps:List PV)(e:TypeId)(k:Nat)(l:List (List DV)):Prop:=
 ∀ (w:World) (S:Nat->Prop) (vs:List Value),ps.length=vs.length->(∀ (i:Nat) (p:PV) (v:Value),ps[i]?=some p->vs[i]?=some v->Rd w g0 S p v) ->
  Calls P f vs.toArray w (fun en w'=>∃ u,en=.returned u/\Below w.heap.size w w'/\RowRd w' S w.heap.size e k l u)
theorem RowRd.data{w:World}{S:Nat->Prop}{base:Nat}{e:TypeId}{k:Nat}{l:List (List DV)}{u:Value}(h:RowRd w S base e k l u):DRd w (fun b=>S b\/base<=b) (.sl l) u:=by
 cases h with
 | nil=>exact .nil none 0 (Nat.zero_le _) (fun _=>rfl)
 | row _ blk cap cur hb hh hlc hcap hcs hk hr=>
  refine .sl l blk 0 cap k (fun i j=>cur.getD (i*k+j) undef) hlc hcap (.inr hb) (Array.getElem?_eq_some_iff.1 hh).1 hk ?_ ?_
  ·intro i j hi hj;have hlt:i*k+j < cur.length:=by rw[hcs];exact vl (by omega) hj
   rw[zU hh];simp[hlt]
  ·intro i cs j x hi hx;obtain⟨u,hu,hd⟩:=hr i cs j x hi hx;have e:cur.getD (i*k+j) undef=u:=by simp[List.getD,hu]
   show DRd w _ x (cur.getD (i*k+j) undef);rw[e];exact hd.keep ⟨Nat.le_refl _,fun _ _ _=>rfl⟩ (fun b hb _=>hb.1)
def FunAt(P:Program)(f:FuncId)(ps:List PV)(r:PV)(w:World)(S:Nat->Prop):Prop:=
 ∀ (vs:List Value),ps.length=vs.length->(∀ (i:Nat) (p:PV) (v:Value),ps[i]?=some p->vs[i]?=some v->Rd w g0 S p v) ->
  Calls P f vs.toArray w (fun e w'=>∃ u,e=.returned u/\Below w.heap.size w w'/\Rd w' g0 (fun b=>S b\/w.heap.size<=b) r u)
def RwAt(P:Program)(f:FuncId)(ps:List PV)(e:TypeId)(k:Nat)(l:List (List DV))(w:World)(S:Nat->Prop):Prop:=
 ∀ (vs:List Value),ps.length=vs.length->(∀ (i:Nat) (p:PV) (v:Value),ps[i]?=some p->vs[i]?=some v->Rd w g0 S p v) ->
  Calls P f vs.toArray w (fun en w'=>∃ u,en=.returned u/\Below w.heap.size w w'/\RowRd w' S w.heap.size e k l u)
theorem PRow.fun{P:Program}{f:FuncId}{ps:List PV}{e:TypeId}{k:Nat}{l:List (List DV)}(h:PRow P f ps e k l):PFun P f ps (.d (.sl l)):=
 fun w S vs hl hv=>(h w S vs hl hv).mono fun _ _ ⟨u,he,hb,hr⟩=>⟨u,he,hb,.d hr.data⟩
def PState.evs(s:PState):List Operand->Option (List PV)
 | []=>some []
 | x::r=>match s.ev x,s.evs r with | some p,some l=>some (p::l) | _,_=>none
theorem yLa{s:PState}:∀ {xs:List Operand} {ps:List PV},s.evs xs=some ps->ps.length=xs.length
 | [],ps,h=>by simp[PState.evs] at h;subst h;rfl
 | x::r,ps,h=>by
  unfold PState.evs at h
  cases h1:s.ev x <;> cases h2:s.evs r <;> simp[h1,h2] at h
  subst h;simp[yLa h2]
theorem qc{s:PState}:∀ {xs:List Operand} {ps:List PV},s.evs xs=some ps->∀ {i:Nat} {p:PV} {x:Operand},ps[i]?=some p->xs[i]?=some x->s.ev x=some p
 | [],ps,h,i,p,x,_,hx=>by simp at hx
 | y::r,ps,h,i,p,x,hp,hx=>by
  unfold PState.evs at h
  cases h1:s.ev y <;> cases h2:s.evs r <;> simp[h1,h2] at h
  subst h
  cases i with
  | zero=>simp at hp hx;subst hp;subst hx;exact h1
  | succ i=>simp at hp hx;exact qc h2 hp hx
section
variable{P:Program}{ctx:Ctx}{Q:PQ}{s:PState}
variable{dst:Option Tmp}{ty:TypeId}{pos:String}{after:Array Edge}{gd:Option (Nat×Bool)}
theorem LR.assignNilRow{id:Nat}(e:TypeId)(k:Nat)(hf:s.fresh id=true):Local P ctx ⟨some id,.assign (.const (.slice none 0 0)),ty,pos,after,gd⟩ s (s.newO id (.row e k []) (.row id 0)):=
 yW (o:=⟨some id,.assign (.const (.slice none 0 0)),ty,pos,after,gd⟩) fun a w g hg=>by
  refine⟨.slice none 0 0,w,by simp[execOp,Act.eval],upd g id none,?_⟩;have:=hg.new (Below.refl _ w) hf none (fun b n e=>by cases e) (.row e k []) (.rowNil e k (zQ _ _ _));exact this.put (some id) (.rowNil id (zQ _ _ _))
theorem RelG.newRow{g:zb}{a:Act}{w:World}(hg:RelG ctx g s a w){id:Nat}(hf:s.fresh id=true){e k cap:Nat}{l:List (List DV)}{cur:List Value}(hlc:l.length<=cap)(hcap:cap<=maxLen)(hcs:cur.length=cap*k)
  (hk:∀ (i:Nat) (cs:List DV),l[i]?=some cs->cs.length=k) (hr:∀ (i:Nat) (cs:List DV) (j:Nat) (x:DV),l[i]?=some cs->cs[j]?=some x->∃ u,cur[i*k+j]?=some u/\DRd w (zk ctx g s.objs) x u) :
  Rel ctx (s.newO id (.row e k l) (.row id l.length)) (a.put (some id) (.slice (some ⟨w.heap.size,0,none⟩) l.length cap)) (w.alloc (.cells cur.toArray e)):=by
 have hb:=Below.alloc1 w (.cells cur.toArray e);have hst:yV w (w.alloc (.cells cur.toArray e)) (zk ctx g s.objs):=⟨hb.size,fun b _ hlt=>hb.block b hlt⟩
 have hF:∀ b,zk ctx g s.objs b->b < w.heap.size->zk ctx (upd g id (some (w.heap.size,cap))) (yD id (.row e k l) s.objs) b:=by
  intro b ⟨h1,h2⟩ hlt;refine⟨h1,fun j o n hl hg'=>?_⟩;rw[zD] at hl
  by_cases hj:j=id
  ·subst hj;rw[zQ] at hg';cases hg';omega
  ·rw[if_neg hj] at hl;rw[ya hj] at hg';exact h2 j o n hl hg'
 have hnew:=hg.new hb hf (some (w.heap.size,cap)) (fun b n e=>by cases e;simp) (.row e k l)
  (.row e k l w.heap.size cap cur (zQ _ _ _) (heap_alloc_new w _) hlc hcap hcs hk (fun i cs j x hi hx=>let ⟨u,hu,hd⟩:=hr i cs j x hi hx;⟨u,hu,hd.keep hst hF⟩))
 exact⟨_,hnew.put (some id) (.row id _ w.heap.size cap (zQ _ _ _))⟩
inductive Elems (s:PState) (k:Nat):List Operand->List (List DV)->Prop
 | nil:Elems s k [] []
 | cons {x:Operand} {p:PV} {cs:List DV} {xs:List Operand} {l:List (List DV)} (h:s.ev x=some p) (hp:p.dparts=some cs) (hk:cs.length=k) (r:Elems s k xs l):Elems s k (x::xs) (cs::l)
theorem Elems.len{k:Nat}{xs:List Operand}{l:List (List DV)}(h:Elems s k xs l):l.length=xs.length:=by
 induction h with
 | nil=>rfl
 | cons _ _ _ _ ih=>simp[ih]
theorem Elems.each{k:Nat}{xs:List Operand}{l:List (List DV)}(h:Elems s k xs l):∀ (i:Nat) (cs:List DV),l[i]?=some cs->cs.length=k:=by
 induction h with
 | nil=>intro i cs hi;simp at hi
 | cons _ _ hk _ ih=>
  intro i cs hi
  cases i with
  | zero=>simp at hi;subst hi;exact hk
  | succ i=>simp at hi;exact ih i cs hi
theorem Elems.real{k:Nat}{xs:List Operand}{l:List (List DV)}(h:Elems s k xs l){a:Act}{w:World}{g:zb}(hg:RelG ctx g s a w) :
  ∃ us:List (List Value),us.length=xs.length/\(∀ (i:Nat) (x:Operand) (u:List Value),xs[i]?=some x->us[i]?=some u->(a.eval x).cells=u.toArray/\u.length=k)/\(∀ u∈us,∀ v∈u,v.oneCell'=true) /\
   ∀ (i:Nat) (cs:List DV) (j:Nat) (x:DV),l[i]?=some cs->cs[j]?=some x->∃ u v,us[i]?=some u/\u[j]?=some v/\DRd w (zk ctx g s.objs) x v:=by
 induction h with
 | nil=>exact⟨[],rfl,by simp,by simp,by simp⟩
 | cons h hp hk _ ih=>
  obtain⟨us,h1,h2,h3,h4⟩:=ih;obtain⟨u0,hu,hlen,hr,ho⟩:=(hg.ev h).parts (PV.dparts_parts hp);refine⟨u0::us,by simp[h1],?_,?_,?_⟩
  ·intro i x u hx hu'
   cases i with
   | zero=>simp at hx hu';subst hx;subst hu';exact⟨hu,by rw[<- hlen];simpa using hk⟩
   | succ i=>simp at hx hu';exact h2 i x u hx hu'
  ·intro u hu';simp at hu';rcases hu' with rfl | hu'
   ·exact ho
   ·exact h3 u hu'
  ·intro i cs j x hi hx
   cases i with
   | zero=>
    simp at hi;subst hi;have hj:j < u0.length:=by rw[<- hlen,List.length_map];exact(List.getElem?_eq_some_iff.1 hx).1
    refine⟨u0,u0[j],rfl,List.getElem?_eq_getElem hj,?_⟩;have:=hr j (.d x) u0[j] (by simp[hx]) (List.getElem?_eq_getElem hj)
    cases this with
    | d h=>exact h
   | succ i=>
    simp at hi;obtain⟨u,v,e1,e2,e3⟩:=h4 i cs j x hi hx;exact⟨u,v,by simpa using e1,e2,e3⟩
def qd{α:Type}:Nat->List α->List (Nat×α)
 | _,[]=>[]
 | i,x::r=>(i,x)::qd (i+1) r
theorem zIa(vs:List Value):∀ (off j:Nat) (cs:Array Value),off+j+vs.length<=cs.size ->
  ((vs.zipIdx j).foldl (fun cs (c,j)=>cs.setIfInBounds (off+j) c) cs).toList=cs.toList.take (off+j)++vs++cs.toList.drop (off+j+vs.length):=by
 induction vs with
 | nil=>intro off j cs h;simp
 | cons v r ih=>
  intro off j cs h;simp only[List.zipIdx_cons,List.foldl_cons,List.length_cons] at h ⊢;rw[show(fun(cs:Array Value) (x:Value×Nat)=>cs.setIfInBounds (off+x.2) x.1)=(fun(cs:Array Value) (x:Value×Nat)=>match x with | (c,j)=>cs.setIfInBounds (off+j) c) from rfl];have:=ih off (j+1) (cs.setIfInBounds (off+j) v) (by simp;omega);rw[this];have e:=list_seg_step cs.toList (off+j) v r (by simp;omega);simp only[Array.toList_setIfInBounds] at *
  rw[show off+(j+1)=off+j+1 from by omega,show off+j+1+r.length=off+j+1+r.length from rfl];rw[e]
theorem jO{k:Nat}:∀ (vs:List Value) (us:List (List Value)) (i:Nat) (pre z:List Value),vs.length=us.length->(∀ (j:Nat) (v:Value) (u:List Value),vs[j]?=some v->us[j]?=some u->v.cells=u.toArray/\u.length=k) ->
  pre.length=i*k->z.length=vs.length*k->Instr.fill (fun i=>some (i*k,k)) (pre++z).toArray (qd i vs)=some (pre++us.flatten).toArray
 | [],us,i,pre,z,hl,_,hp,hz=>by
  have:us=[]:=List.eq_nil_of_length_eq_zero hl.symm;subst this;have:z=[]:=List.eq_nil_of_length_eq_zero (by simpa using hz);subst this;simp[qd,Instr.fill]
 | v::r,us,i,pre,z,hl,h,hp,hz=>by
  cases us with
  | nil=>simp at hl
  | cons u us=>
   obtain⟨hc,hk⟩:=h 0 v u rfl rfl;simp only[List.length_cons,Nat.add_mul,Nat.one_mul] at hz;have hcs:v.cells.size=k:=by rw[hc];simpa using hk
   have hfit:¬ (i*k+v.cells.size > (pre++z).toArray.size):=by simp only[List.size_toArray,List.length_append];omega
   unfold qd Instr.fill;simp only[hcs,ne_eq,not_true_eq_false];rw[hcs] at hfit;rw[if_neg (by simpa using hfit)];have hf:=zIa u (i*k) 0 (pre++z).toArray (by simp only[List.size_toArray,List.length_append];omega);have e:(v.cells.zipIdx.foldl (fun cs (c,j)=>cs.setIfInBounds (i*k+j) c) (pre++z).toArray)=((pre++u)++z.drop k).toArray:=by
    apply Array.ext';rw[hc];have e1:(u.toArray.zipIdx).foldl (fun cs (c,j)=>cs.setIfInBounds (i*k+j) c) (pre++z).toArray=(u.zipIdx 0).foldl (fun cs (c,j)=>cs.setIfInBounds (i*k+j) c) (pre++z).toArray:=by
     rw[<- Array.foldl_toList];simp
    rw[e1,hf];simp only[Nat.add_zero];rw[<- hp,List.take_left,List.drop_append,hk];simp[List.drop_eq_nil_of_le]
   rw[e];have:=jO r us (i+1) (pre++u) (z.drop k) (by simpa using hl) (fun j v' u' h1 h2=>h (j+1) v' u' (by simpa using h1) (by simpa using h2)) (by simp[hp,hk,Nat.add_mul]) (by simp;omega);rw[this];simp
end
end Go.Ep
namespace Go.Ep
theorem aR : type_of% @LR.assignNilRow:=@LR.assignNilRow
end Go.Ep
