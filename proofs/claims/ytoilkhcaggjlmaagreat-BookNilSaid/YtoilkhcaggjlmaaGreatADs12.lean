/- Side texts. -/
import Derived.ProofKit
import Derived.Deep.Slices
import Derived.Test.YtoilkhcaggjlmaaGreatProg
import Derived.KernelRfl
import Derived.Test.YtoilkhcaggjlmaaGreatADs2
import Derived.Test.YtoilkhcaggjlmaaGreatADs5
import Derived.Test.YtoilkhcaggjlmaaGreatADs10
import Derived.Test.YtoilkhcaggjlmaaGreatADs11
set_option linter.unusedVariables false
set_option linter.unusedSimpArgs false
namespace Go.Ep.M.E
open Go
theorem ut(s:ByteArray):(vM s).length=s.size:=by simp[vM]
def cidD(v:Int):DT:=⟨v / 281474976710656,v % 281474976710656⟩
theorem band48{v:Int}(h0:0<=v)(h:v<=18446744073709551615):bAnd .u64 v 281474976710655=v % 281474976710656:=by
 obtain⟨n,rfl⟩:=Int.eq_ofNat_of_zero_le h0;unfold bAnd;have bv:∀ q:Nat,q < 18446744073709551616->(BitVec.ofInt IntKind.u64.bits (q:Int)).toNat=q:=fun q hq=>by
  show(BitVec.ofInt 64 (q:Int)).toNat=q;rw[BitVec.toNat_ofInt];omega
 have e:(281474976710655:Int)=((281474976710655:Nat):Int):=rfl;rw[e,BitVec.toNat_and,bv n (by omega),bv _ (by decide)];have h2:n &&& 281474976710655=n % 281474976710656:=Nat.and_two_pow_sub_one_eq_mod n 48;rw[h2,wU64 (by omega) (by omega)];omega
theorem Split_eq{v:Int}(h0:0<=v)(h:v<=18446744073709551615):ZB v=pure ((cidD v).dev,(cidD v).n):=by
 unfold ZB cidD;have e:(2 ^ 48:Int)=281474976710656:=rfl;rw[band48 h0 h,Int.fdiv_eq_ediv_of_nonneg _ (by decide),e,wU16 (by omega) (by omega)]
theorem xKa{v:Int}(h0:0<=v)(h:v<=18446744073709551615):XZ v=pure ((cidD v).dev,(cidD v).n):=by
 unfold XZ cidD;rw[Int.tdiv_eq_ediv_of_nonneg h0,Int.tmod_eq_emod_of_nonneg h0,wU64 (by omega) (by omega),wU16 (by omega) (by omega)]
def Vy(v:Int):Bool:=V.yE (cidD v)
theorem xLa{v:Int}(h0:0<=v)(h:v<=18446744073709551615):YF v=pure (if Vy v=true then cidD v else ⟨0,0⟩,Vy v):=by
 unfold YF;rw[Split_eq h0 h,zB,zA,V.XB,zB,zA];show cond (!Vy v) _ _=_
 cases Vy v <;> rfl
theorem zta{v:Int}(h0:0<=v)(h:v<=18446744073709551615):YR v=pure (if Vy v=true then cidD v else ⟨0,0⟩,Vy v):=by
 unfold YR;rw[xKa h0 h,zB,zA,V.uC,zB,zA];show cond (!Vy v) _ _=_
 cases Vy v <;> rfl
def QG(f:Int):Bool:=decide (1<=f)&&decide (f<=5)
theorem Field_eq(f:Int):YG f=pure (QG f):=by unfold YG QG;rw[zd];rfl
theorem xMa(f:Int):Wv f=pure (QG f):=by unfold Wv QG;rw[zd];rfl
def okB(x:Int):Bool:=decide (32<=x)&&decide (x<=126)
def QH(s:ByteArray):Bool:=decide (s.size<=60)&&(vM s).all okB
theorem WR{α:Type}(l:List α)(p:α->Bool):(l.zipIdx.all fun y=>p y.1)=l.all p:=by
 rw[Bool.eq_iff_iff,List.all_eq_true,List.all_eq_true]
 constructor
 ·intro h x hx;obtain⟨i,hi⟩:=List.getElem?_of_mem hx;exact h (x,i) (by rw[List.mk_mem_zipIdx_iff_getElem?];exact hi)
 ·intro h y hy;exact h y.1 (List.fst_mem_of_mem_zipIdx hy)
theorem okB_eq(x:Int)(f:M Bool)(hf:f=pure (decide (126 < x))):(cond (decide (x < 32)) (pure true) f:M Bool)=pure (!okB x):=by
 rw[hf];unfold okB
 by_cases h1:x < 32
 ·have:¬ 32<=x:=by omega
  simp[h1,this]
 ·have:32<=x:=by omega
  by_cases h2:126 < x
  ·have:¬ x<=126:=by omega
   simp[h1,h2,this]
  ·have:x<=126:=by omega
   simp[h1,h2, *]
theorem xNa(s:ByteArray)(hs:s.size<=1000000000000):loop (xl s) 0=pure (if (vM s).all okB=true then Ex.brk () else Ex.ret false):=by
 have:=wd (body:=xl s) (vM s) (fun i=>(i:Int)) (fun _ x=>okB x) (Ex.brk ()) (Ex.ret false) (fun i x hx hi=>by
  have hd:decide ((i:Int) < (s.size:Int))=true:=by rw[<- ut];simpa using hi
  have hi2:i < s.size:=by rw[<- ut];exact hi
  unfold xl;simp only[hd,cond_true,zJ hx,zA,okB_eq x _ rfl,yC (show i < 9223372036854775807 by omega)]
  cases okB x <;> rfl) (by
  unfold xl;simp[ut])
 rw[show(0:Int)=((0:Nat):Int) from rfl,this,WR]
theorem zua(s:ByteArray)(hs:s.size<=1000000000000):loop (vr s) 0=pure (if (vM s).all okB=true then Ex.brk () else Ex.ret false):=by
 have:=wd (body:=vr s) (vM s) (fun i=>(i:Int)) (fun _ x=>okB x) (Ex.brk ()) (Ex.ret false) (fun i x hx hi=>by
  have hd:decide ((i:Int) < (s.size:Int))=true:=by rw[<- ut];simpa using hi
  have hi2:i < s.size:=by rw[<- ut];exact hi
  unfold vr;simp only[hd,cond_true,zJ hx,zA,okB_eq x _ rfl,yC (show i < 9223372036854775807 by omega)]
  cases okB x <;> rfl) (by
  unfold vr;simp[ut])
 rw[show(0:Int)=((0:Nat):Int) from rfl,this,WR]
theorem Text_eq(s:ByteArray)(hs:s.size<=1000000000000):YH s=pure (QH s):=by
 unfold YH QH;rw[xNa s hs]
 by_cases h:s.size<=60
 ·have:decide ((60:Int) < (s.size:Int))=false:=by simp;omega
  rw[this,cond_false,zA,decide_eq_true h,Bool.true_and]
  cases (vM s).all okB <;> rfl
 ·have:decide ((60:Int) < (s.size:Int))=true:=by simp;omega
  rw[this,cond_true,decide_eq_false h,Bool.false_and]
theorem rText_eq(s:ByteArray)(hs:s.size<=1000000000000):Ww s=pure (QH s):=by
 unfold Ww QH;rw[zua s hs,zA]
 cases (vM s).all okB with
 | false=>rw[Bool.and_false];rfl
 | true=>
  rw[if_pos rfl,Xz,Bool.and_true]
  congr 1
  by_cases h:s.size<=60
  ·rw[decide_eq_true h];simp;omega
  ·rw[decide_eq_false h];simp;omega
structure OkE(e:EV):Prop where
 dot:D.OkD e.dot
 kind:0<=e.kind/\e.kind<=255
 cid:0<=e.cid/\e.cid<=18446744073709551615
 field:0<=e.field/\e.field<=255
 text:e.text.size<=1000000000
 kills:∀ d∈e.kills,D.OkD d
 klen:e.kills.length<=1000000000
def xOa(s:ByteArray):Bool:=decide (s=⟨#[]⟩)
def goodK(e:EV):Bool:=(decide (e.kind=1)&&(QG e.field&&QH e.text))||(decide (e.kind=2)&&(decide (e.field=0)&&xOa e.text))
def zva(e:EV):Bool:=decide (e.kills.length<=256)&&(D.Zw e.kills&&e.kills.all fun d=>V.yE d&&!decide (d=e.dot))
def xX(e:EV):Bool:=(Vy e.cid&&V.yE e.dot)&&(goodK e&&zva e)
theorem xPa(l:List DT)(hl:l.length<=1000000000000):YI l=pure (D.Zw l):=by
 unfold YI;have key:∀ (k i:Nat) (x:DT) (r:List DT),i+k=l.length->l.drop i=r->i≠0->l[i - 1]?=some x->loop (ye l) (i:Int)=pure (if D.Zw (x::r)=true then Ex.brk () else Ex.ret false):=by
  intro k
  induction k with
  | zero=>
   intro i x r hi hr h1 hx;have:r=[]:=by rw[<- hr];exact List.drop_eq_nil_of_le (by omega)
   subst this;exact zr (by
    unfold ye;have:decide ((i:Int) < (l.length:Int))=false:=by simp;omega
    simp only[this,cond_false];rfl)
  | succ k ih=>
   intro i x r hi hr h1 hx;have hlt:i < l.length:=by omega
   have hr2:r=l[i]::l.drop (i+1):=by rw[<- hr];exact List.drop_eq_getElem_cons hlt
   have hy:=List.getElem?_eq_getElem hlt;have hi1:idx l (IntKind.i64.wrap ((i:Int) - 1))=pure x:=by
    rw[UF (by omega) (by omega)];exact XM (by omega) (by rw[show((i:Int) - 1).toNat=i - 1 by omega];exact hx)
   have hb:ye l (i:Int)=cond (!zQ x l[i]) (pure (.done (.ret false))) (pure (.next ((i+1:Nat):Int))):=by
    unfold ye;have h2:decide ((i:Int) < (l.length:Int))=true:=by simp;omega
    have h3:decide ((0:Int) < (i:Int))=true:=by simp;omega
    simp only[h2,h3,cond_true,hi1,zJ hy,zA,D.Cmp_eq,zB,D.cmp_ge,yC (show i < 9223372036854775807 by omega)]
   rw[hr2];show _=(pure (if (zQ x l[i]&&D.Zw (l[i]::l.drop (i+1)))=true then Ex.brk () else Ex.ret false):M (Ex Unit Bool))
   cases c:zQ x l[i] with
   | true=>
    rw[c] at hb;rw[yD hb,Bool.true_and];exact ih (i+1) l[i] _ (by omega) rfl (by omega) hy
   | false=>
    rw[c] at hb;rw[zr hb];rfl
 cases l with
 | nil=>
  rw[zr (r:=Ex.brk ()) (by unfold ye;rfl)];rfl
 | cons x r=>
  have h0:ye (x::r) 0=pure (.next 1):=by
   unfold ye;have h2:decide ((0:Int) < ((x::r).length:Int))=true:=decide_eq_true (by rw[List.length_cons];omega);simp only[h2,cond_true,show decide ((0:Int) < 0)=false from rfl,cond_false,zA];rw[UF (by omega) (by omega)]
   rfl
  have:=key r.length 1 x r (by simp;omega) rfl (by decide) rfl;rw[show((1:Nat):Int)=1 from rfl] at this;rw[yD h0,this,zA]
  cases D.Zw (x::r) <;> rfl
theorem zwa(e:EV)(hl:e.kills.length<=1000000000000):loop (xm e) 0=pure (if (e.kills.all fun d=>V.yE d&&!decide (d=e.dot))=true then Ex.brk () else Ex.ret false):=by
 have:=wd (body:=xm e) e.kills (fun i=>(i:Int)) (fun _ d=>V.yE d&&!decide (d=e.dot)) (Ex.brk ()) (Ex.ret false) (fun i x hx hi=>by
  have hd:decide ((i:Int) < (e.kills.length:Int))=true:=by simpa using hi
  unfold xm;simp only[hd,cond_true,zJ hx,zA,V.XB,zB,D.QF,yC (show i < 9223372036854775807 by omega)]
  cases V.yE x <;> cases decide (x=e.dot) <;> rfl) (by
  unfold xm;simp)
 rw[show(0:Int)=((0:Nat):Int) from rfl,this,WR e.kills fun d=>V.yE d&&!decide (d=e.dot)]
theorem jv{e:EV}(h:OkE e):uh e=pure (xX e):=by
 have hk:=h.klen;have ht:=h.text;unfold uh xX;rw[xLa h.cid.1 h.cid.2,zB,zA,V.XB,zB,zA,zwa e (by omega),xPa e.kills (by omega),Field_eq,Text_eq e.text (by omega)];simp only[]
 cases Vy e.cid with
 | false=>rfl
 | true=>
  cases V.yE e.dot with
  | false=>rfl
  | true=>
   have hl:decide ((256:Int) < (e.kills.length:Int))=!decide (e.kills.length<=256):=by
    by_cases c:e.kills.length<=256
    ·rw[decide_eq_true c];simp;omega
    ·rw[decide_eq_false c];simp;omega
   have tail:(cond (decide ((256:Int) < (e.kills.length:Int))) (pure true) ((det (pure (D.Zw e.kills))).bind fun v23=>pure (!v23))).bind (fun v21=>cond v21 (pure false) ((pure (if (e.kills.all fun d=>V.yE d&&!decide (d=e.dot))=true then Ex.brk () else Ex.ret false)).bind (exk fun _=>pure true)))=pure (zva e):=by
    unfold zva;rw[hl,zB,zA]
    cases decide (e.kills.length<=256) with
    | false=>rfl
    | true=>
     cases D.Zw e.kills with
     | false=>rfl
     | true=>cases e.kills.all fun d=>V.yE d&&!decide (d=e.dot) <;> rfl
   simp only[Bool.not_true,cond_false,zA,zB,Bool.true_and] at tail ⊢;unfold goodK xOa
   by_cases k1:e.kind=1
   ·have k2:decide (e.kind=2)=false:=by rw[k1];rfl
    rw[decide_eq_true k1,cond_true,k2,Bool.true_and,Bool.false_and,Bool.or_false]
    cases QG e.field with
    | false=>rfl
    | true=>
     cases QH e.text with
     | false=>rfl
     | true=>exact tail
   ·rw[decide_eq_false k1,cond_false,Bool.false_and,Bool.false_or]
    by_cases k2:e.kind=2
    ·rw[decide_eq_true k2,cond_true,Bool.true_and]
     cases decide (e.field=0) with
     | false=>rfl
     | true=>
      cases decide (e.text=(⟨#[]⟩:ByteArray)) with
      | false=>rfl
      | true=>exact tail
    ·rw[decide_eq_false k2];rfl
theorem Zt(l:List DT)(d:DT)(hl:l.length<=1000000000000):WF l d=pure (l.any fun x=>decide (x=d)):=by
 unfold WF;have:=wd (body:=YT l d) l (fun i=>(i:Int)) (fun _ x=>!decide (x=d)) (Ex.brk ()) (Ex.ret true) (fun i x hx hi=>by
  have hd:decide ((i:Int) < (l.length:Int))=true:=by simpa using hi
  unfold YT;simp only[hd,cond_true,zJ hx,zA,D.QF,yC (show i < 9223372036854775807 by omega)]
  cases decide (x=d) <;> rfl) (by
  unfold YT;simp)
 rw[show(0:Int)=((0:Nat):Int) from rfl,this,zA,WR l fun x=>!decide (x=d)];have e:(l.any fun x=>decide (x=d))=!(l.all fun x=>!decide (x=d)):=by simp[List.all_eq_not_any_not]
 rw[e]
 cases l.all fun x=>!decide (x=d) <;> rfl
theorem zxa(e:EV)(hl:e.kills.length<=1000000000000):loop (vt e) 0=pure (if e.kills.all V.yE=true then Ex.brk () else Ex.ret false):=by
 have:=wd (body:=vt e) e.kills (fun i=>(i:Int)) (fun _ d=>V.yE d) (Ex.brk ()) (Ex.ret false) (fun i x hx hi=>by
  have hd:decide ((i:Int) < (e.kills.length:Int))=true:=by simpa using hi
  unfold vt;simp only[hd,cond_true,zJ hx,zA,V.uC,zB,yC (show i < 9223372036854775807 by omega)]
  cases V.yE x <;> rfl) (by
  unfold vt;simp)
 rw[show(0:Int)=((0:Nat):Int) from rfl,this,WR e.kills V.yE]
theorem VG{e:EV}(h:OkE e):YU e=pure (xX e):=by
 have hk:=h.klen;have ht:=h.text;unfold YU xX;rw[zta h.cid.1 h.cid.2,zB,zA,V.uC,zB,zA,zxa e (by omega),D.zsa e.kills (by omega),xMa,rText_eq e.text (by omega),Zt e.kills e.dot (by omega)];simp only[]
 cases Vy e.cid with
 | false=>rfl
 | true=>
  cases V.yE e.dot with
  | false=>rfl
  | true=>
   have hl:decide ((e.kills.length:Int)<=256)=decide (e.kills.length<=256):=by
    by_cases c:e.kills.length<=256
    ·rw[decide_eq_true c];simp;omega
    ·rw[decide_eq_false c];simp;omega
   have hall:(e.kills.all fun d=>V.yE d&&!decide (d=e.dot))=(e.kills.all V.yE&&!(e.kills.any fun x=>decide (x=e.dot))):=by
    rw[Bool.eq_iff_iff,Bool.and_eq_true,List.all_eq_true,List.all_eq_true,Bool.not_eq_true',List.any_eq_false]
    constructor
    ·intro h;exact⟨fun x hx=>by have:=h x hx;rw[Bool.and_eq_true] at this;exact this.1,fun x hx=>by have:=h x hx;rw[Bool.and_eq_true] at this;simpa using this.2⟩
    ·rintro⟨h1,h2⟩ x hx;rw[Bool.and_eq_true];exact⟨h1 x hx,by simpa using h2 x hx⟩
   have tail:((pure (if e.kills.all V.yE=true then Ex.brk () else Ex.ret false):M (Ex Unit Bool)).bind (exk fun _=>(cond (decide ((e.kills.length:Int)<=256)) ((det (pure (D.Zw e.kills))).bind fun v46=>cond v46 ((det (pure (e.kills.any fun x=>decide (x=e.dot)))).bind fun v49=>pure (!v49)) (pure false)) (pure false)).bind fun v44=>pure v44))=pure (zva e):=by
    unfold zva;rw[hl,hall];simp only[zB,zA]
    cases e.kills.all V.yE with
    | false=>cases decide (e.kills.length<=256) <;> cases D.Zw e.kills <;> rfl
    | true=>cases decide (e.kills.length<=256) <;> cases D.Zw e.kills <;> cases e.kills.any fun x=>decide (x=e.dot) <;> rfl
   simp only[Bool.not_true,cond_false,zA,zB,Bool.true_and] at tail ⊢;unfold goodK xOa
   by_cases k1:e.kind=1
   ·have k2:decide (e.kind=2)=false:=by rw[k1];rfl
    rw[decide_eq_true k1,k2];simp only[Bool.not_true,cond_false,cond_true,zA,Bool.true_and,Bool.false_and,Bool.or_false]
    cases QG e.field with
    | false=>rfl
    | true=>
     cases QH e.text with
     | false=>rfl
     | true=>exact tail
   ·rw[decide_eq_false k1];simp only[Bool.not_false,cond_true,zA,Bool.false_and,Bool.false_or]
    by_cases k2:e.kind=2
    ·rw[decide_eq_true k2];simp only[Bool.not_true,cond_false,cond_true,Bool.true_and]
     cases decide (e.field=0) with
     | false=>rfl
     | true=>
      cases decide (e.text=(⟨#[]⟩:ByteArray)) with
      | false=>rfl
      | true=>exact tail
    ·rw[decide_eq_false k2];rfl
def fewE(l:List EV)(most:Nat):Bool:=decide (l.length<=most)&&l.all fun e=>decide (e.kills.length<=300)&&decide (e.text.size<=200)
theorem QB(l:List EV)(most:Nat)(hm:most<=1000000):VV l (most:Int)=pure (fewE l most):=by
 unfold VV fewE
 by_cases h:l.length<=most
 ·have hd:decide ((most:Int) < (l.length:Int))=false:=by simp;omega
  have:=wd (body:=YD l) l (fun i=>(i:Int)) (fun _ e=>decide (e.kills.length<=300)&&decide (e.text.size<=200)) (Ex.brk ()) (Ex.ret false) (fun i x hx hi=>by
   have hd:decide ((i:Int) < (l.length:Int))=true:=by simpa using hi
   unfold YD;simp only[hd,cond_true,zJ hx,zA,yC (show i < 9223372036854775807 by omega)]
   by_cases c:x.kills.length<=300
   ·have h1:decide ((300:Int) < (x.kills.length:Int))=false:=by simp;omega
    rw[h1,cond_false,decide_eq_true c,Bool.true_and,zA]
    by_cases c2:x.text.size<=200
    ·have h2:decide ((200:Int) < (x.text.size:Int))=false:=by simp;omega
     rw[h2,decide_eq_true c2];rfl
    ·have h2:decide ((200:Int) < (x.text.size:Int))=true:=by simp;omega
     rw[h2,decide_eq_false c2];rfl
   ·have h1:decide ((300:Int) < (x.kills.length:Int))=true:=by simp;omega
    rw[h1,cond_true,decide_eq_false c,Bool.false_and];rfl) (by
   unfold YD;simp)
  rw[hd,cond_false,decide_eq_true h,Bool.true_and,show(0:Int)=((0:Nat):Int) from rfl,this,zA,WR l fun e=>decide (e.kills.length<=300)&&decide (e.text.size<=200)]
  cases l.all fun e=>decide (e.kills.length<=300)&&decide (e.text.size<=200) <;> rfl
 ·have hd:decide ((most:Int) < (l.length:Int))=true:=by simp;omega
  rw[hd,cond_true,decide_eq_false h,Bool.false_and]
theorem few_mem{l:List EV}{most:Nat}(h:fewE l most=true):l.length<=most/\∀ e∈l,e.kills.length<=300/\e.text.size<=200:=by
 unfold fewE at h;rw[Bool.and_eq_true,List.all_eq_true] at h;exact⟨by simpa using h.1,fun e he=>by simpa using h.2 e he⟩
theorem rSame_eq(a b:EV)(h:a.kills.length<=1000000000000):Wx a b=pure (decide (a=b)):=by
 unfold Wx;rw[D.QF,V.Vl a.kills b.kills h,zB,zA];have e:decide (a=b)=(decide (a.dot=b.dot)&&(decide (a.kind=b.kind)&&(decide (a.cid=b.cid)&&(decide (a.field=b.field)&&(decide (a.text=b.text)&&decide (a.kills=b.kills)))))):=by
  cases a;cases b;simp only[EV.mk.injEq,Bool.decide_and]
 rw[e]
 cases decide (a.dot=b.dot) <;> cases decide (a.kind=b.kind) <;> cases decide (a.cid=b.cid) <;> cases decide (a.field=b.field) <;> cases decide (a.text=b.text) <;> rfl
theorem rAll_eq(a b:List EV)(ha:a.length<=1000000000000)(hk:∀ e∈a,e.kills.length<=1000000000000):jJ a b=pure (decide (a=b)):=by
 unfold jJ
 by_cases hlen:a.length=b.length
 ·have h1:decide ((a.length:Int)=(b.length:Int))=true:=by simp[hlen]
  rw[h1,Bool.not_true,cond_false];have:=wd (body:=YV a b) a (fun i=>(i:Int)) (fun i x=>decide (b[i]?=some x)) (Ex.brk ()) (Ex.ret false) (fun i x hx hi=>by
   have hd:decide ((i:Int) < (a.length:Int))=true:=by simpa using hi
   obtain⟨y,hy⟩:∃ y,b[i]?=some y:=⟨_,List.getElem?_eq_getElem (by omega)⟩
   unfold YV;simp only[hd,cond_true,zJ hx,zJ hy,zA,rSame_eq x y (hk x (List.mem_of_getElem? hx)),zB,yC (show i < 9223372036854775807 by omega),hy]
   by_cases c:x=y
   ·subst c;simp
   ·have:¬ some y=some x:=fun e=>c (Option.some.inj e).symm
    simp[c,this]) (by
   unfold YV;simp)
  rw[show(0:Int)=((0:Nat):Int) from rfl,this,zA];have e:(a.zipIdx.all fun y=>decide (b[y.2]?=some y.1))=decide (a=b):=by
   rw[Bool.eq_iff_iff,List.all_eq_true,decide_eq_true_eq]
   constructor
   ·intro h;apply List.ext_getElem?;intro i
    by_cases hi:i < a.length
    ·have:=h (a[i],i) (by rw[List.mk_mem_zipIdx_iff_getElem?];exact List.getElem?_eq_getElem hi);simp only[decide_eq_true_eq] at this;rw[this,List.getElem?_eq_getElem hi]
    ·rw[List.getElem?_eq_none (by omega),List.getElem?_eq_none (by omega)]
   ·intro h y hy;subst h;rw[List.mem_zipIdx_iff_getElem?] at hy;simpa using hy
  rw[e]
  cases decide (a=b) <;> rfl
 ·have h1:decide ((a.length:Int)=(b.length:Int))=false:=by simp;omega
  have h2:decide (a=b)=false:=decide_eq_false fun e=>hlen (by rw[e])
  rw[h1,Bool.not_false,cond_true,h2]
open N (RS Ok Yj WP zpa textS XD OkB Sim)
open D (bad4 fin)
def s1(s:RS):RS:=(D.dotS s).2
def s2(s:RS):RS:=(zpa (s1 s)).2
def s3(s:RS):RS:=(Yj (s2 s)).2
def s4(s:RS):RS:=(zpa (s3 s)).2
def s5(s:RS):RS:=(textS 60 (s4 s)).2
def s6(s:RS):RS:=(D.dotsS 256 (s5 s)).2
def getE(s:RS):EV:=⟨(D.dotS s).1,(zpa (s1 s)).1,(Yj (s2 s)).1,(zpa (s3 s)).1,(textS 60 (s4 s)).1,(D.dotsS 256 (s5 s)).1⟩
def noE : EV:=⟨⟨0,0⟩,0,0,0,⟨#[]⟩,[]⟩
def getT(s:RS):RS:=bad4 (!xX (getE s)) (s6 s)
def xy(s:RS):EV×RS:=fin noE (getE s) (getT s)
variable{B:List Int}{a:Int}{s:RS}
open N (RS Ok Yj WP zpa textS XD OkB Sim)
open D (bad4 fin)
variable{B:List Int}{a:Int}{s:RS}
abbrev uc(l:List EV):Prop:=l.Pairwise fun x y=>zQ x.dot y.dot=true
theorem jw(e:EV)(h:e.kills.length<=1000000000000):yP e=pure e:=by
 unfold yP;rw[D.jt _ h,zB,zA]
end Go.Ep.M.E
namespace Go.Ep.M.F
open Go
open E (OkE xX)
def XE(l:List DT)(d:DT):Bool:=l.any fun x=>decide (x=d)
def Vz(l:List EV)(d:DT):Bool:=l.any fun e=>XE e.kills d
def yR(l:List EV):List DT:=l.flatMap fun e=>e.dot::e.kills
def ya(l:List EV):List DT:=D.Xr (yR l)
theorem vc(l:List EV)(k:Nat)(h:∀ e∈l,e.kills.length<=k):(yR l).length<=l.length*(k+1):=by
 induction l with
 | nil=>simp[yR]
 | cons e r ih=>
  have h1:=ih fun x hx=>h x (by simp[hx])
  have h2:=h e (by simp);have e1:(yR (e::r)).length=e.kills.length+1+(yR r).length:=by simp[yR];omega
  rw[e1,List.length_cons,Nat.add_mul];omega
theorem UA{l:List EV}{i:Nat}{x:EV}(h:l[i]?=some x):yR (l.take (i+1))=yR (l.take i)++x.dot::x.kills:=by
 rw[List.take_add_one,h];simp[yR]
theorem Jr(l:List EV)(i:Nat):(yR (l.take i)).length<=(yR l).length:=by
 have:yR l=yR (l.take i)++yR (l.drop i):=by unfold yR;rw[<- List.flatMap_append,List.take_append_drop]
 rw[this,List.length_append];omega
theorem jx(l:List EV)(hl:l.length<=1000000000)(hs:(yR l).length<=1000000000):vg l=pure (ya l):=by
 unfold vg;have key:∀ (k i:Nat),i+k=l.length->loop (vV l) ((i:Int),yR (l.take i))=pure (yR l):=by
  intro k
  induction k with
  | zero=>
   intro i hi;refine zr ?_;unfold vV;have:decide ((i:Int) < (l.length:Int))=false:=by simp;omega
   simp only[this,cond_false];rw[List.take_of_length_le (by omega)]
  | succ k ih=>
   intro i hi;obtain⟨x,hx⟩:∃ x,l[i]?=some x:=⟨_,List.getElem?_eq_getElem (by omega)⟩
   have hd:decide ((i:Int) < (l.length:Int))=true:=by simp;omega
   have h1:=Jr l (i+1);rw[UA hx,List.length_append,List.length_cons] at h1;rw[yD (s':=(((i+1:Nat):Int),yR (l.take (i+1)))) ?_]
   ·exact ih (i+1) (by omega)
   ·unfold vV;simp only[hd,cond_true,zJ hx,zA,yC (show i < 9223372036854775807 by omega)];rw[zE (by simp;omega),zE (by simp;omega),UA hx,List.append_assoc];rfl
 have:=key l.length 0 (by omega);rw[show yR (l.take 0)=[] from rfl] at this;rw[show(0:Int)=((0:Nat):Int) from rfl,this,zA,D.Sort_eq _ (by omega),zB,zA,ya]
theorem rdots_in(l:List EV){i:Nat}{x:EV}(hx:l[i]?=some x)(hk:x.kills.length<=1000000000)(s:List DT)(hs:s.length<=1000000000):loop (uB l (i:Int)) (s,0)=pure (x.kills.foldl D.QC s):=by
 have:=ZL (body:=uB l (i:Int)) x.kills (fun k t=>(t,(k:Int))) D.QC (fun t=>pure t) (fun k t=>t.length<=1000000000+k) (fun k d t hd hi hI=>by
  have hc:decide ((k:Int) < (x.kills.length:Int))=true:=by simpa using hi
  refine⟨?_,by have:=D.QD t d;omega⟩;unfold uB;simp only[zJ hx,zA,hc,cond_true,zJ hd,D.xHa t d (by omega),zB,yC (show k < 9223372036854775807 by omega)]) (fun t _=>by
  unfold uB;simp[zJ hx,zA]) s (by omega)
 exact this
theorem jy(l:List EV)(hl:l.length<=1000000)(hk:∀ e∈l,e.kills.length<=300):Xf l=pure (ya l):=by
 unfold Xf;have key:∀ (k i:Nat),i+k=l.length->loop (ZM l) (D.Xr (yR (l.take i)),(i:Int))=pure (ya l):=by
  intro k
  induction k with
  | zero=>
   intro i hi;refine zr ?_;unfold ZM;have:decide ((i:Int) < (l.length:Int))=false:=by simp;omega
   simp only[this,cond_false];rw[List.take_of_length_le (by omega)];rfl
  | succ k ih=>
   intro i hi;obtain⟨x,hx⟩:∃ x,l[i]?=some x:=⟨_,List.getElem?_eq_getElem (by omega)⟩
   have hd:decide ((i:Int) < (l.length:Int))=true:=by simp;omega
   have h1:=Jr l i;have h2:=vc l 300 hk;have h3:=D.zDa (yR (l.take i));have h4:=D.QD (D.Xr (yR (l.take i))) x.dot;have h5:=hk x (List.mem_of_getElem? hx);rw[yD (s':=(D.Xr (yR (l.take (i+1))),((i+1:Nat):Int))) ?_]
   ·exact ih (i+1) (by omega)
   ·unfold ZM;simp only[hd,cond_true,zJ hx,zA,D.xHa _ x.dot (show(D.Xr (yR (l.take i))).length<=1000000000000 by omega),zB,rdots_in l hx (show x.kills.length<=1000000000 by omega) _ (show(D.QC (D.Xr (yR (l.take i))) x.dot).length<=1000000000 by omega),yC (show i < 9223372036854775807 by omega)];rw[UA hx];unfold D.Xr;rw[List.foldl_append];rfl
 have:=key l.length 0 (by omega);rw[show D.Xr (yR (l.take 0))=[] from rfl] at this;rw[show(0:Int)=((0:Nat):Int) from rfl,this,zA]
open E (OkE xX)
set_option maxHeartbeats 4000000 in
theorem eSame_eq(a b:EV)(h:a.kills.length<=1000000000000):YQ a b=pure (decide (a=b)):=by
 unfold YQ;rw[D.QF,V.qr a.kills b.kills h,zB,zA];have e:decide (a=b)=(decide (a.dot=b.dot)&&(decide (a.kind=b.kind)&&(decide (a.cid=b.cid)&&(decide (a.field=b.field)&&(decide (a.text=b.text)&&decide (a.kills=b.kills)))))):=by
  cases a;cases b;simp only[EV.mk.injEq,Bool.decide_and]
 rw[e]
 cases decide (a.dot=b.dot) <;> cases decide (a.kind=b.kind) <;> cases decide (a.cid=b.cid) <;> cases decide (a.field=b.field) <;> cases decide (a.text=b.text) <;> rfl
theorem eAll_eq(a b:List EV)(ha:a.length<=1000000000000)(hk:∀ e∈a,e.kills.length<=1000000000000):XY a b=pure (decide (a=b)):=by
 unfold XY zV
 by_cases hlen:a.length=b.length
 ·have h1:decide ((a.length:Int)=(b.length:Int))=true:=by simp[hlen]
  rw[h1,Bool.not_true,cond_false];have:=wd (body:=zG a b) a (fun i=>(i:Int)) (fun i x=>decide (b[i]?=some x)) (Ex.brk ()) (Ex.ret false) (fun i x hx hi=>by
   have hd:decide ((i:Int) < (a.length:Int))=true:=by simpa using hi
   obtain⟨y,hy⟩:∃ y,b[i]?=some y:=⟨_,List.getElem?_eq_getElem (by omega)⟩
   unfold zG;simp only[hd,cond_true,zJ hx,zJ hy,zA,eSame_eq x y (hk x (List.mem_of_getElem? hx)),zB,yC (show i < 9223372036854775807 by omega),hy]
   by_cases c:x=y
   ·subst c;simp
   ·have:¬ some y=some x:=fun e=>c (Option.some.inj e).symm
    simp[c,this]) (by
   unfold zG;simp)
  rw[show(0:Int)=((0:Nat):Int) from rfl,this,zA];have e:(a.zipIdx.all fun y=>decide (b[y.2]?=some y.1))=decide (a=b):=by
   rw[Bool.eq_iff_iff,List.all_eq_true,decide_eq_true_eq]
   constructor
   ·intro h;apply List.ext_getElem?;intro i
    by_cases hi:i < a.length
    ·have:=h (a[i],i) (by rw[List.mem_zipIdx_iff_getElem?];exact List.getElem?_eq_getElem hi);simp only[decide_eq_true_eq] at this;rw[this,List.getElem?_eq_getElem hi]
    ·rw[List.getElem?_eq_none (by omega),List.getElem?_eq_none (by omega)]
   ·rintro rfl y hy;rw[List.mem_zipIdx_iff_getElem?] at hy;simpa using hy
  rw[e]
  cases decide (a=b) <;> simp[zB,exk,zA]
 ·have h1:decide ((a.length:Int)=(b.length:Int))=false:=by simp;omega
  have h2:decide (a=b)=false:=decide_eq_false fun e=>hlen (by rw[e])
  rw[h1,Bool.not_false,cond_true,zB,zA,h2]
end Go.Ep.M.F
namespace Go.Ep.M.G
open Go
open E (OkE xX uc)
open F (XE yR ya)
theorem vd : ∀ {l l':List EV},uc l->uc l'->(∀ d,d∈l↔d∈l')->l=l'
 | [],[],_,_,_=>rfl
 | [],y::r,_,_,h=>by have:=(h y).2 (by simp);simp at this
 | x::r,[],_,_,h=>by have:=(h x).1 (by simp);simp at this
 | x::r,y::t,h1,h2,h=>by
  have hx:=(h x).1 (by simp);have hy:=(h y).2 (by simp);have e:x=y:=by
   rcases List.mem_cons.1 hx with e | hx
   ·exact e
   ·rcases List.mem_cons.1 hy with e | hy
    ·exact e.symm
    ·have a1:=(List.pairwise_cons.1 h2).1 x hx;have a2:=(List.pairwise_cons.1 h1).1 y hy;rw[D.Zu a1] at a2;cases a2
  subst e
  congr 1
  refine vd (List.pairwise_cons.1 h1).2 (List.pairwise_cons.1 h2).2 fun d=>?_
  have h3:=h d;simp only[List.mem_cons] at h3
  constructor
  ·intro hd;rcases h3.1 (.inr hd) with e | h4
   ·have:=(List.pairwise_cons.1 h1).1 d hd;rw[e,D.Wb] at this;cases this
   ·exact h4
  ·intro hd;rcases h3.2 (.inr hd) with e | h4
   ·have:=(List.pairwise_cons.1 h2).1 d hd;rw[e,D.Wb] at this;cases this
   ·exact h4
theorem Xs{l:List EV}(h:uc l):(l.map (·.dot)).Nodup:=by
 unfold List.Nodup;rw[List.pairwise_map];exact h.imp fun {a b} h e=>by rw[e,D.Wb] at h;cases h
theorem srtE_one{l:List EV}(h:uc l){a b:EV}(ha:a∈l)(hb:b∈l)(e:a.dot=b.dot):a=b:=by
 induction l with
 | nil=>cases ha
 | cons x r ih=>
  obtain⟨h1,h2⟩:=List.pairwise_cons.1 h;rcases List.mem_cons.1 ha with ea | ea <;> rcases List.mem_cons.1 hb with eb | eb
  ·rw[ea,eb]
  ·have:=h1 b eb;rw[<- ea,e,D.Wb] at this;cases this
  ·have:=h1 a ea;rw[<- eb,e,D.Wb] at this;cases this
  ·exact ih h2 ea eb
theorem zS{l:List EV}(h:uc l)(p:EV->Bool):uc (l.filter p):=h.sublist List.filter_sublist
theorem xQa{s:List EV}(hn:(s.map (·.dot)).Nodup)(h:s.Pairwise fun x y=>uX y x=false):uc s:=by
 unfold List.Nodup at hn;rw[List.pairwise_map] at hn;refine(hn.and h).imp fun {a b} ⟨h1,h2⟩=>?_
 cases h3:zQ a.dot b.dot with
 | true=>rfl
 | false=>exact absurd (D.Ul h3 h2) h1
theorem xRa{l:List EV}{Q:List EV->Prop}(h:∀ s,s.Perm l->(s.Pairwise fun x y=>uX y x=false)->Q s):(srt uX l).wp Q:=by
 refine⟨⟨l.mergeSort (fun x y=>!zQ y.dot x.dot),List.mergeSort_perm _ _,?_⟩,fun s ⟨h1,h2⟩=>h s h1 h2⟩;refine(List.pairwise_mergeSort (fun a b c h1 h2=>?_) (fun a b=>?_) l).imp fun {x y} h=>by show zQ y.dot x.dot=false;simpa using h
 ·simp only[Bool.not_eq_true'] at h1 h2 ⊢
  cases h3:zQ c.dot a.dot with
  | false=>rfl
  | true=>
   rw[D.Wa] at h3;have h4:¬ (zQ b.dot a.dot=true):=by simp[h1]
   have h5:¬ (zQ c.dot b.dot=true):=by simp[h2]
   rw[D.Wa] at h4 h5;omega
 ·cases h1:zQ b.dot a.dot with
  | false=>rfl
  | true=>rw[D.Zu h1];rfl
def ent(e:EV):DT×EV:=(e.dot,e)
theorem ent_inj{a b:EV}(h:ent a=ent b):a=b:=(Prod.mk.inj h).2
theorem xSa{l:List EV}{k:DT×EV}:k∈l.map ent↔k.2∈l/\k.1=k.2.dot:=by
 rw[List.mem_map]
 constructor
 ·rintro⟨e,h,rfl⟩;exact⟨h,rfl⟩
 ·rintro⟨h1,h2⟩;exact⟨k.2,h1,by unfold ent;rw[<- h2]⟩
def Holds(m:List (DT×EV))(l:List EV):Prop:=m.Perm (l.map ent)
theorem Holds.keys{m:List (DT×EV)}{l:List EV}(h:Holds m l)(hs:uc l):(m.map (·.1)).Nodup:=by
 have h1:=h.map (·.1);rw[List.map_map] at h1;exact h1.nodup_iff.2 (Xs hs)
theorem Holds.mem{m:List (DT×EV)}{l:List EV}(h:Holds m l){k:DT×EV}:k∈m↔k.2∈l/\k.1=k.2.dot:=by rw[h.mem_iff,xSa]
theorem Holds.len{m:List (DT×EV)}{l:List EV}(h:Holds m l):m.length=l.length:=by rw[h.length_eq,List.length_map]
theorem xTa{l:List EV}(h:uc l):(l.map ent).Nodup:=by
 unfold List.Nodup;rw[List.pairwise_map];exact h.imp fun {a b} h e=>by rw[ent_inj e,D.Wb] at h;cases h
theorem jz{m:List (DT×EV)}{l:List EV}(hn:(m.map (·.1)).Nodup)(hs:uc l)(h:∀ k,k∈m↔k.2∈l/\k.1=k.2.dot):Holds m l:=by
 have hm:m.Nodup:=by
  unfold List.Nodup at hn ⊢;rw[List.pairwise_map] at hn;exact hn.imp fun {a b} h e=>h (by rw[e])
 exact(List.perm_ext_iff_of_nodup hm (xTa hs)).2 fun k=>by rw[h,xSa]
theorem jw(e:EV)(h:e.kills.length<=1000000000000):yP e=pure e:=by
 unfold yP;rw[D.jt e.kills h,zB,zA]
theorem UB{body:List Nat×List EV->M (Step (List Nat×List EV) (List EV))}(m:List (DT×EV))(hb:body=fun⟨seen,out⟩=>yo (∀ i∈seen,i < m.length)<|M.bind (nxt m.length seen) fun o=>match o with
  | none=>pure (.done out)
  | some j=>M.bind (idx m (Int.ofNat j)) fun kv=>M.bind (det (yP kv.2)) fun v=>yo ((out.length+List.length [v])*80<=140737488355328)<|pure (.next (seen++[j],out++[v])))
  (hl:m.length<=500000000000) (hk:∀ k∈m,k.2.kills.length<=1000000000000) (t0:List EV) (h0:t0.length<=500000000000) {Q:List EV->Prop} (hQ:∀ l:List (DT×EV),l.Perm m->Q (t0++l.map (·.2))):(loop body ([],t0)).wp Q:=by
 refine M.loopM (body:=body) m (fun L (t:List EV)=>(L,t)) (fun t e=>(yP e.2).det.bind fun v=>yo ((t.length+1)*80<=140737488355328) (pure (t++[v]))) (fun t=>pure t)
  (fun l t=>t=t0++l.map (·.2)) Q (fun L t hL=>?_) (fun l t y ht hlen hy=>?_) (fun l t hp ht=>?_) t0 (by simp)
 ·subst hb;show yo _ ((nxt _ _).bind _)=yo _ ((nxt _ _).bind _);refine congrArg (fun k=>yo _ ((nxt _ _).bind k)) (funext fun o=>?_)
  cases o with
  | none=>rfl
  | some i=>rfl
 ·rw[jw y.2 (hk y hy),zB,zA];subst ht;exact⟨_,zE (by simp;omega) _,by simp⟩
 ·subst ht;exact hQ l hp
theorem zHa{nl:Bool}{m:List (DT×EV)}{l:List EV}(hm:Holds m l)(hs:uc l)(hl:l.length<=500000000000)(hk:∀ e∈l,e.kills.length<=1000000000000):ww nl m=pure l:=by
 unfold ww;refine ux (UB (body:=Zh m) m rfl (by rw[hm.len];exact hl) (fun k h=>hk _ (hm.mem.1 h).1) [] (by simp) fun q hq=>?_);show(yo _ _).wp _;have hp:(q.map (·.2)).Perm l:=by
  have:=(hq.trans hm).map (·.2);rw[List.map_map] at this;simpa[Function.comp_def,ent] using this
 rw[List.nil_append,zE (by rw[hp.length_eq];omega)];refine xRa fun s h1 h2=>?_
 show s=l;have h3:=h1.trans hp;exact vd (xQa ((h3.map (·.dot)).nodup_iff.2 (Xs hs)) h2) hs fun d=>h3.mem_iff
theorem list2_eq{nl1 nl2:Bool}{m1 m2:List (DT×EV)}{l l1 l2:List EV}(h1:Holds m1 l1)(h2:Holds m2 l2)(hp:(l1++l2).Perm l)(hs:uc l)(hl:l.length<=200000000000)(hk:∀ e∈l,e.kills.length<=1000000000000):wx nl1 m1 nl2 m2=pure l:=by
 have hll:=hp.length_eq;rw[List.length_append] at hll;have hk1:∀ k∈m1,k.2.kills.length<=1000000000000:=fun k h=>hk _ (hp.mem_iff.1 (List.mem_append_left _ (h1.mem.1 h).1))
 have hk2:∀ k∈m2,k.2.kills.length<=1000000000000:=fun k h=>hk _ (hp.mem_iff.1 (List.mem_append_right _ (h2.mem.1 h).1))
 unfold wx;refine ux (UB (body:=Zi m1) m1 rfl (by rw[h1.len];omega) hk1 [] (by simp) fun q hq=>?_);have hq1:(q.map (·.2)).Perm l1:=by
  have:=(hq.trans h1).map (·.2);rw[List.map_map] at this;simpa[Function.comp_def,ent] using this
 refine UB (body:=Zj m2) m2 rfl (by rw[h2.len];omega) hk2 _ (by rw[List.nil_append,hq1.length_eq];omega) fun q2 hq2=>?_
 have hq3:(q2.map (·.2)).Perm l2:=by
  have:=(hq2.trans h2).map (·.2);rw[List.map_map] at this;simpa[Function.comp_def,ent] using this
 show(yo _ _).wp _;rw[List.nil_append];have hpp:(q.map (·.2)++q2.map (·.2)).Perm l:=(hq1.append hq3).trans hp;rw[zE (by rw[hpp.length_eq];omega)];refine xRa fun s h3 h4=>?_
 show s=l;have h5:=h3.trans hpp;exact vd (xQa ((h5.map (·.dot)).nodup_iff.2 (Xs hs)) h4) hs fun d=>h5.mem_iff
open E (OkE xX uc)
open F (XE yR ya Vz)
section
variable{κ ν:Type}[DecidableEq κ]
theorem del_sub(m:List (κ×ν))(x:κ):(AL.del m x).Sublist m:=by
 induction m with
 | nil=>exact List.Sublist.slnil
 | cons k r ih=>
  obtain⟨k,v⟩:=k;unfold AL.del
  split
  ·exact List.sublist_cons_self _ _
  ·exact ih.cons_cons _
theorem mem_del{m:List (κ×ν)}(hn:(m.map (·.1)).Nodup)(x:κ)(k:κ×ν):k∈AL.del m x↔k∈m/\k.1≠x:=by
 induction m with
 | nil=>simp[AL.del]
 | cons y r ih=>
  obtain⟨q,v⟩:=y;rw[List.map_cons,List.nodup_cons] at hn;unfold AL.del
  split
  ·rename_i e
   subst e;rw[List.mem_cons]
   constructor
   ·intro h;exact⟨.inr h,fun e=>hn.1 (e▸List.mem_map.2 ⟨k,h,rfl⟩)⟩
   ·rintro⟨h | h,h2⟩
    ·subst h;exact absurd rfl h2
    ·exact h
  ·rename_i e
   rw[List.mem_cons,List.mem_cons,ih hn.2]
   constructor
   ·rintro(h | ⟨h,h2⟩)
    ·subst h;exact⟨.inl rfl,e⟩
    ·exact⟨.inr h,h2⟩
   ·rintro⟨h | h,h2⟩
    ·exact .inl h
    ·exact .inr ⟨h,h2⟩
theorem xUa{m:List (κ×ν)}(hn:(m.map (·.1)).Nodup)(x:κ)(v:ν)(k:κ×ν):k∈AL.set m x v↔(k∈m/\k.1≠x)\/k=(x,v):=by
 induction m with
 | nil=>simp[AL.set]
 | cons y r ih=>
  obtain⟨q,u⟩:=y;rw[List.map_cons,List.nodup_cons] at hn;unfold AL.set
  split
  ·rename_i e
   subst e;rw[List.mem_cons,List.mem_cons]
   constructor
   ·rintro(h | h)
    ·exact .inr h
    ·exact .inl ⟨.inr h,fun e=>hn.1 (e▸List.mem_map.2 ⟨k,h,rfl⟩)⟩
   ·rintro(⟨h | h,h2⟩ | h)
    ·subst h;exact absurd rfl h2
    ·exact .inr h
    ·exact .inl h
  ·rename_i e
   rw[List.mem_cons,List.mem_cons,ih hn.2]
   constructor
   ·rintro(h | ⟨h,h2⟩ | h)
    ·subst h;exact .inl ⟨.inl rfl,e⟩
    ·exact .inl ⟨.inr h,h2⟩
    ·exact .inr h
   ·rintro(⟨h | h,h2⟩ | h)
    ·exact .inl h
    ·exact .inr (.inl ⟨h,h2⟩)
    ·exact .inr (.inr h)
end
theorem Holds.del{m:List (DT×EV)}{l:List EV}(h:Holds m l)(hs:uc l)(d:DT):Holds (AL.del m d) (l.filter fun e=>!decide (e.dot=d)):=
 jz ((h.keys hs).sublist ((del_sub m d).map _)) (zS hs _) fun k=>by
  rw[mem_del (h.keys hs),h.mem,List.mem_filter]
  constructor
  ·rintro⟨⟨h1,h2⟩,h3⟩;exact⟨⟨h1,by rw[h2] at h3;simp[h3]⟩,h2⟩
  ·rintro⟨⟨h1,h3⟩,h2⟩;exact⟨⟨h1,h2⟩,by rw[h2];simpa using h3⟩
theorem Yc{l:List DT}{d:DT}:XE l d=true↔d∈l:=by
 unfold XE;rw[List.any_eq_true]
 constructor
 ·rintro⟨x,h1,h2⟩;rw[<- of_decide_eq_true h2];exact h1
 ·intro h;exact⟨d,h,by simp⟩
theorem xVa(x:DT)(r:List DT)(d:DT):XE (x::r) d=(decide (x=d)||XE r d):=rfl
theorem Holds.dels : ∀ (ks:List DT) {m:List (DT×EV)} {l:List EV},Holds m l->uc l->Holds (ks.foldl AL.del m) (l.filter fun e=>!XE ks e.dot)
 | [],m,l,h,_=>by
  have:(l.filter fun e=>!XE [] e.dot)=l:=List.filter_eq_self.2 fun _ _=>rfl
  rw[this];exact h
 | d::r,m,l,h,hs=>by
  have h1:=Holds.dels r (h.del hs d) (zS hs _);rw[List.filter_filter] at h1;rw[List.foldl_cons];have:(fun e:EV=>!XE (d::r) e.dot)=fun e=>(!XE r e.dot)&&!decide (e.dot=d):=funext fun e=>by
   rw[xVa,Bool.not_or,Bool.and_comm]
   congr 2
   exact decide_eq_decide.2 ⟨Eq.symm,Eq.symm⟩
  rw[this];exact h1
def Js(l:List EV)(e:EV):List EV:=(l.filter fun x=>zQ x.dot e.dot)++[e]++(l.filter fun x=>zQ e.dot x.dot)
theorem VH{l:List EV}(hs:uc l)(e:EV):uc (Js l e):=by
 unfold Js uc;rw[List.pairwise_append,List.pairwise_append];refine⟨⟨zS hs _,by simp,fun a ha b hb=>?_⟩,zS hs _,fun a ha b hb=>?_⟩
 ·rw[List.mem_singleton.1 hb];exact(List.mem_filter.1 ha).2
 ·have h2:=(List.mem_filter.1 hb).2;rcases List.mem_append.1 ha with h | h
  ·exact D.Xq (List.mem_filter.1 h).2 h2
  ·rw[List.mem_singleton.1 h];exact h2
theorem VI{l:List EV}{e:EV}(hn:∀ x∈l,x.dot≠e.dot){x:EV}:x∈Js l e↔x=e\/x∈l:=by
 unfold Js;rw[List.mem_append,List.mem_append,List.mem_filter,List.mem_filter,List.mem_singleton]
 constructor
 ·rintro((⟨h,_⟩ | h) | ⟨h,_⟩)
  ·exact .inr h
  ·exact .inl h
  ·exact .inr h
 ·rintro(h | h)
  ·exact .inl (.inr h)
  ·cases h1:zQ x.dot e.dot with
   | true=>exact .inl (.inl ⟨h,rfl⟩)
   | false=>
    cases h2:zQ e.dot x.dot with
    | true=>exact .inr ⟨h,rfl⟩
    | false=>exact absurd (D.Ul h1 h2) (hn x h)
theorem insE_len(l:List EV)(e:EV)(hs:uc l):(Js l e).length<=l.length+1:=by
 unfold Js;have h:∀ q:List EV,(q.filter fun x=>zQ x.dot e.dot).length+(q.filter fun x=>zQ e.dot x.dot).length<=q.length:=by
  intro q
  induction q with
  | nil=>simp
  | cons x r ih=>
   rw[List.filter_cons,List.filter_cons]
   cases h1:zQ x.dot e.dot with
   | true=>rw[D.Zu h1];simp;omega
   | false=>simp only[Bool.false_eq_true,if_false];split <;> simp <;> omega
 have:=h l;simp;omega
theorem Holds.add{m:List (DT×EV)}{l:List EV}(h:Holds m l)(hs:uc l){e:EV}(hn:∀ x∈l,x.dot≠e.dot):Holds (AL.set m e.dot e) (Js l e):=
 jz (AL.nodup_set (h.keys hs) _ _) (VH hs e) fun k=>by
  rw[xUa (h.keys hs),h.mem,VI hn]
  constructor
  ·rintro(⟨⟨h1,h2⟩,h3⟩ | h1)
   ·exact⟨.inr h1,h2⟩
   ·rw[h1];exact⟨.inl rfl,rfl⟩
  ·rintro⟨h1 | h1,h2⟩
   ·refine .inr ?_;obtain⟨k1,k2⟩:=k;simp only at h1 h2;rw[h2,h1]
   ·exact .inl ⟨⟨h1,h2⟩,by rw[h2];exact hn _ h1⟩
theorem zya{ρ:Type}{body:Int×List EV->M (Step (Int×List EV) ρ)}(l:List EV)(p:EV->Bool)(g:List EV->M ρ)
  (h1:∀ (i:Nat) (x:EV) (t:List EV),l[i]?=some x->i < l.length->t.length<=i->body ((i:Int),t)=pure (.next (((i+1:Nat):Int),if p x then t++[x] else t)))
  (h2:∀ t,body ((l.length:Int),t)=(g t).bind fun r=>pure (.done r)):loop body (0,[])=g (l.filter p):=by
 have h:=ZL (body:=body) l (fun i (t:List EV)=>((i:Int),t)) (fun t x=>if p x then t++[x] else t) g (fun i t=>t.length<=i)
  (fun i x t hx hi hI=>⟨h1 i x t hx hi hI,by split <;> (try rw[List.length_append,List.length_singleton]) <;> omega⟩) (fun t _=>h2 t) [] (Nat.le_refl _)
 have hf:∀ (q t:List EV),q.foldl (fun t x=>if p x then t++[x] else t) t=t++q.filter p:=by
  intro q
  induction q with
  | nil=>intro t;simp
  | cons x r ih=>intro t;rw[List.foldl_cons,ih,List.filter_cons];split <;> simp
 rw[hf,List.nil_append] at h;exact h
theorem zIa(l:List EV)(e:EV)(hs:uc l)(hn:∀ x∈l,x.dot≠e.dot)(hl:l.length<=1000000000):Yv l e=pure (Js l e):=by
 unfold Yv;have h:=ZL (body:=un l e) l (fun i (t:Bool×List EV)=>(t.1,(i:Int),t.2)) (fun t x=>((t.1||!zQ x.dot e.dot),(if (!zQ x.dot e.dot&&!t.1)=true then t.2++[e] else t.2)++[x])) (fun t=>pure (Ex.brk (t.1,t.2)))
  (fun i t=>t.2.length<=i+1/\(t.1=false->t.2.length<=i)) (fun i x t hx hi hI=>by
   obtain⟨dn,out⟩:=t;have c0:x.dot≠e.dot:=hn x (List.mem_of_getElem? hx);have hz:V.qq x.dot e.dot≠0:=by
    unfold V.qq;rw[if_neg c0];split <;> decide
   have hpos:decide (0 < V.qq x.dot e.dot)=!zQ x.dot e.dot:=by
    by_cases c1:zQ x.dot e.dot=true
    ·have:=V.Xj.2 c1;rw[c1];simp;omega
    ·have h2:¬ V.qq x.dot e.dot < 0:=fun h=>c1 (V.Xj.1 h)
     simp only[Bool.not_eq_true] at c1;rw[c1];simp;omega
   have hc:decide ((i:Int) < (l.length:Int))=true:=by simpa using hi
   have hI1:=hI.1;have hI2:=hI.2;simp only at hI1 hI2;refine⟨?_,?_⟩
   ·unfold un;simp only[hc,cond_true,zJ hx,zA,V.YY,zB,decide_eq_false hz,cond_false,hpos]
    cases zQ x.dot e.dot <;> cases dn <;> simp only[Bool.not_true,Bool.not_false,cond_true,cond_false,zA,Bool.and_true,Bool.and_false,Bool.or_true,Bool.or_false,Bool.false_eq_true,if_true,if_false]
    ·rw[zE (by simp;omega),zA];simp only[];rw[zE (by simp;omega),yC (show i < 9223372036854775807 by omega)]
    ·rw[zE (by simp;omega),yC (show i < 9223372036854775807 by omega)]
    ·rw[zE (by simp;omega),yC (show i < 9223372036854775807 by omega)]
    ·rw[zE (by simp;omega),yC (show i < 9223372036854775807 by omega)]
   ·cases zQ x.dot e.dot <;> cases dn <;> simp_all <;> omega) (fun t _=>by
   unfold un;simp[zA]) (false,[]) (by simp)
 have hA:∀ (q acc:List EV),q.foldl (fun(t:Bool×List EV) x=>((t.1||!zQ x.dot e.dot),(if (!zQ x.dot e.dot&&!t.1)=true then t.2++[e] else t.2)++[x])) (true,acc)=(true,acc++q):=by
  intro q
  induction q with
  | nil=>intro acc;simp
  | cons x r ih=>intro acc;rw[List.foldl_cons];simp only[Bool.true_or,Bool.not_true,Bool.and_false,Bool.false_eq_true,if_false];rw[ih];simp
 have hB:∀ (q acc:List EV),uc q->(∀ x∈q,x.dot≠e.dot)->∃ r:Bool×List EV,q.foldl (fun(t:Bool×List EV) x=>((t.1||!zQ x.dot e.dot),(if (!zQ x.dot e.dot&&!t.1)=true then t.2++[e] else t.2)++[x])) (false,acc)=r/\(if r.1=true then r.2 else r.2++[e])=acc++Js q e/\(r.1=false->r.2.length=acc.length+q.length):=by
  intro q
  induction q with
  | nil=>intro acc _ _;exact⟨(false,acc),rfl,by simp[Js],fun _=>by simp⟩
  | cons x r ih=>
   intro acc hs hn;obtain⟨p1,p2⟩:=List.pairwise_cons.1 hs;rw[List.foldl_cons]
   cases c:zQ x.dot e.dot with
   | true=>
    simp only[Bool.not_true,Bool.or_self,Bool.false_and,Bool.false_eq_true,if_false];obtain⟨y,h1,h2,h3⟩:=ih (acc++[x]) p2 fun z hz=>hn z (by simp[hz])
    refine⟨y,h1,?_,fun h=>by rw[h3 h];simp;omega⟩;rw[h2];unfold Js;rw[List.filter_cons,List.filter_cons,if_pos c,if_neg (by rw[D.Zu c];simp)];simp
   | false=>
    have hgt:zQ e.dot x.dot=true:=by
     cases hh:zQ e.dot x.dot with
     | true=>rfl
     | false=>exact absurd (D.Ul c hh) (hn x (by simp))
    simp only[Bool.not_false,Bool.or_true,Bool.and_self,if_true];rw[hA];refine⟨_,rfl,?_,fun h=>by cases h⟩;rw[if_pos rfl];unfold Js;have e1:((x::r).filter fun y=>zQ y.dot e.dot)=[]:=List.filter_eq_nil_iff.2 fun y hy=>by
     rcases List.mem_cons.1 hy with rfl | hy
     ·rw[c];simp
     ·rw[D.Zu (D.Xq hgt (p1 y hy))];simp
    have e2:((x::r).filter fun y=>zQ e.dot y.dot)=x::r:=List.filter_eq_self.2 fun y hy=>by
     rcases List.mem_cons.1 hy with rfl | hy
     ·exact hgt
     ·exact D.Xq hgt (p1 y hy)
    rw[e1,e2];simp
 obtain⟨r,h1,h2,h3⟩:=hB l [] hs hn;rw[h1] at h;have h':loop (un l e) (false,0,[])=pure (Ex.brk (r.1,r.2)):=h;rw[h',zA,Xz];obtain⟨r1,r2⟩:=r
 cases r1 with
 | true=>
  simp only[Bool.not_true,cond_false,zA];rw[if_pos rfl,List.nil_append] at h2;have h2:r2=Js l e:=h2;rw[h2]
 | false=>
  have:=h3 rfl;simp only[List.length_nil,Nat.zero_add] at this;simp only[Bool.not_false,cond_true];rw[zE (by simp;omega),zA];rw[if_neg (by simp),List.nil_append] at h2;have h2:r2++[e]=Js l e:=h2;rw[h2]
theorem Jt{e:EV}(h:xX e=true):e.kind=1\/e.kind=2:=by
 simp only[xX,E.goodK,Bool.and_eq_true,Bool.or_eq_true,decide_eq_true_eq] at h;rcases h.2.1 with h | h
 ·exact .inl h.1
 ·exact .inr h.1
theorem Um{e:EV}(h:xX e=true):e.kills.length<=256/\D.Srt e.kills/\∀ d∈e.kills,V.yE d=true/\d≠e.dot:=by
 simp only[xX,E.zva,Bool.and_eq_true,decide_eq_true_eq,List.all_eq_true,Bool.not_eq_true',decide_eq_false_iff_not] at h;exact⟨h.2.2.1,D.zGa.1 h.2.2.2.1,fun d hd=>h.2.2.2.2 d hd⟩
theorem good_dot{e:EV}(h:xX e=true):V.yE e.dot=true:=by
 simp only[xX,Bool.and_eq_true] at h;exact h.1.2
open E (OkE xX uc)
open F (XE yR ya Vz)
def xY(L:List EV):List EV:=L.filter fun e=>decide (e.kind=1)
def xx(L:List EV):List EV:=L.filter fun e=>decide (e.kind=2)
theorem xS{L:List EV}{x:EV}:x∈xY L↔x∈L/\x.kind=1:=by simp[xY]
theorem wi{L:List EV}{x:EV}:x∈xx L↔x∈L/\x.kind=2:=by simp[xx]
theorem vF{l:List EV}{d:DT}:d∈yR l↔∃ e∈l,d=e.dot\/d∈e.kills:=by simp[yR]
theorem VJ{l:List EV}{d:DT}:Vz l d=true↔∃ e∈l,d∈e.kills:=by
 unfold Vz;rw[List.any_eq_true];exact⟨fun⟨e,h1,h2⟩=>⟨e,h1,Yc.1 h2⟩,fun⟨e,h1,h2⟩=>⟨e,h1,Yc.2 h2⟩⟩
structure Rep(n:Nat)(W c xc:List PT)(nl1:Bool)(m1:List (DT×EV))(nl2:Bool)(m2:List (DT×EV))(L:List EV):Prop where
 ctx:c=C.yH W
 xctx:∀ k n,C.ZR xc k n=C.ZR W k n
 xok:C.Ok xc
 live:Holds m1 (xY L)
 tomb:Holds m2 (xx L)
 n1:nl1=true->m1=[]
 n2:nl2=true->m2=[]
 srt:uc L
 good:∀ e∈L,xX e=true/\OkE e
 dots:∀ d∈yR L,C.ZR W d.dev d.n=true
 alive:∀ e∈L,e.kind=1->Vz L e.dot=false
 wl:W.length<=n
 wt:C.vT W<=n
 ll:L.length<=n
theorem VK{W:List PT}(h1:W.length<=400000000)(h2:C.vT W<=400000000):C.Ok (C.yH W):=
 ⟨fun p hp=>by have:=((C.xR W).nf p hp).1;omega,by have:=C.uq W;omega,by have:=C.ur W;omega⟩
section
variable{n:Nat}{W c xc:List PT}{nl1:Bool}{m1:List (DT×EV)}{nl2:Bool}{m2:List (DT×EV)}{L:List EV}
theorem Rep.mono(hR:Rep n W c xc nl1 m1 nl2 m2 L){k:Nat}(h:n<=k):Rep k W c xc nl1 m1 nl2 m2 L:=
 { hR with wl:=Nat.le_trans hR.wl h,wt:=Nat.le_trans hR.wt h,ll:=Nat.le_trans hR.ll h }
theorem Rep.okc(hR:Rep n W c xc nl1 m1 nl2 m2 L)(hn:n<=100000000):C.Ok c:=by
 rw[hR.ctx];exact VK (by have:=hR.wl;omega) (by have:=hR.wt;omega)
theorem Rep.has(hR:Rep n W c xc nl1 m1 nl2 m2 L)(hn:n<=100000000)(d:DT):uY c d=pure (C.ZR W d.dev d.n):=by
 rw[C.y8a c d (hR.okc hn).sm,hR.ctx,C.yj]
theorem Rep.rhas(hR:Rep n W c xc nl1 m1 nl2 m2 L)(d:DT):wW xc d=pure (C.ZR W d.dev d.n):=by
 rw[C.Zt xc d hR.xok,hR.xctx]
theorem Rep.new : Rep 0 [] [] [] true [] true [] [] where
 ctx:=rfl
 xctx _ _:=rfl
 xok:=C.ok_nil
 live:=List.Perm.refl _
 tomb:=List.Perm.refl _
 n1 _:=rfl
 n2 _:=rfl
 srt:=List.Pairwise.nil
 good _ h:=by cases h
 dots _ h:=by cases h
 alive _ h:=by cases h
 wl:=Nat.le_refl _
 wt:=Nat.le_refl _
 ll:=Nat.le_refl _
theorem JA(ks:List DT):ks.foldl AL.del ([]:List (DT×EV))=[]:=by
 induction ks with
 | nil=>rfl
 | cons d r ih=>rw[List.foldl_cons];exact ih
theorem add_eq{e:EV}(hk:e.kills.length<=1000000000000){nl:Bool}{m:List (DT×EV)}(h:nl=true->m=[]):vh e nl m=pure (false,AL.set m e.dot e):=by
 unfold vh;have h1:(cond nl (M.pure ([]:List (DT×EV))) (M.pure m))=M.pure m:=by
  cases nl with
  | true=>rw[h rfl];rfl
  | false=>rfl
 rw[h1,zA,jw e hk,zB,zA]
def Un(L:List EV)(e:EV):List EV:=Js (L.filter fun x=>!decide (x.kind=1)||!XE e.kills x.dot) e
theorem Ju(e:EV)(hk:e.kills.length<=1000000000)(m:List (DT×EV)):loop (yf e) (0,m)=pure (e.kills.foldl AL.del m):=
 ZL (body:=yf e) e.kills (fun i (t:List (DT×EV))=>((i:Int),t)) AL.del (fun t=>pure t) (fun _ _=>True) (fun i x t hx hi _=>by
  have hd:decide ((i:Int) < (e.kills.length:Int))=true:=by simpa using hi
  refine⟨?_,trivial⟩;unfold yf;simp only[hd,cond_true,zJ hx,zA,yC (show i < 9223372036854775807 by omega)]) (fun t _=>by
  unfold yf;simp[zA]) m trivial
theorem xWa(e:EV)(hk:e.kills.length<=1000000000)(xc:List PT)(L:List EV)(hl:L.length<=1000000000):loop (uo ⟨xc,L⟩ e) (0,[])=pure (L.filter fun x=>!decide (x.kind=1)||!XE e.kills x.dot):=
 zya (body:=uo ⟨xc,L⟩ e) L (fun x=>!decide (x.kind=1)||!XE e.kills x.dot) (fun t=>pure t) (fun i x t hx hi hI=>by
  have hd:decide ((i:Int) < (L.length:Int))=true:=by simpa using hi
  unfold uo;have hh:WF e.kills x.dot=pure (XE e.kills x.dot):=E.Zt e.kills x.dot (by omega);simp only[hd,cond_true,zJ hx,zA,hh,zB,yC (show i < 9223372036854775807 by omega)]
  cases decide (x.kind=1) <;> cases XE e.kills x.dot <;> simp only[Bool.not_true,Bool.not_false,cond_true,cond_false,zA,Bool.or_true,Bool.or_false,Bool.true_or,Bool.false_or,if_true,if_false,Bool.false_eq_true]
  all_goals (try rw[zE (by simp;omega)])
  all_goals rfl) (fun t=>by
  unfold uo;simp[zA])
theorem put_mem(hR:Rep n W c xc nl1 m1 nl2 m2 L){e:EV}(hc:C.ZR W e.dot.dev e.dot.n=false){x:EV}:x∈Un L e↔x=e\/(x∈L/\(x.kind≠1\/x.dot∉e.kills)):=by
 unfold Un;rw[VI,List.mem_filter]
 ·simp only[Bool.or_eq_true,Bool.not_eq_true',decide_eq_false_iff_not,<- Bool.not_eq_true (b:=XE _ _),Yc]
 ·intro x hx e1;have:=hR.dots x.dot (vF.2 ⟨x,(List.mem_filter.1 hx).1,.inl rfl⟩);rw[e1,hc] at this;cases this
theorem Rep.put(hR:Rep n W c xc nl1 m1 nl2 m2 L)(hn:n<=100000000){e:EV}(oe:OkE e)(g:xX e=true)(hc:C.ZR W e.dot.dev e.dot.n=false) :
  ∃ c' xc' nl1' m1' nl2' m2',zk e c nl1 m1 nl2 m2=pure (0,c',nl1',m1',nl2',m2')/\qp ⟨xc,L⟩ e=pure (⟨xc',Un L e⟩,0)/\Rep (n+600) (W++C.zq (ya [e])) c' xc' nl1' m1' nl2' m2' (Un L e):=by
 obtain⟨k1,k2,k3⟩:=Um g;have hdl:(yR [e]).length<=300:=by simp[yR];omega
 have hde:(ya [e]).length<=300:=Nat.le_trans (D.zDa _) hdl;have hne:∀ x∈L,x.dot≠e.dot:=fun x hx e1=>by
  have:=hR.dots x.dot (vF.2 ⟨x,hx,.inl rfl⟩);rw[e1,hc] at this;cases this
 have hadd:VW c (ya [e])=pure (C.yH (W++C.zq (ya [e]))):=by
  have h:=hR.okc hn;rw[C.Add_eq c (ya [e]) (by omega) h.len h.tot,hR.ctx,C.jp]
 have hxok:C.Ok (C.yH (C.zq (ya [e]))):=C.jq (by omega);have hjoin:ZG xc (C.yH (C.zq (ya [e])))=pure (C.opC (·||·) xc (C.yH (C.zq (ya [e])))):=C.jo _ _ hR.xok hxok;have hxe:C.opC (·||·) xc (C.yH (C.zq (ya [e])))=C.yH (W++C.zq (ya [e])):=(C.Ya rfl _ _).ext (C.xR _) fun k n=>by
  rw[C.WO rfl,C.yj,C.yj,C.ZS,hR.xctx]
 have hW1:(W++C.zq (ya [e])).length<=n+600:=by have:=hR.wl;have:=C.vc (ya [e]);rw[List.length_append];omega
 have hW2:C.vT (W++C.zq (ya [e]))<=n+600:=by have:=hR.wt;have:=C.Xp (ya [e]);rw[C.YZ];omega
 have hsP:uc (Un L e):=VH (zS hR.srt _) e;have hmem:=fun x=>put_mem (x:=x) hR hc
 -- the document
 have hr:qp ⟨xc,L⟩ e=pure (⟨C.yH (W++C.zq (ya [e])),Un L e⟩,0):=by
  unfold qp;rw[E.VG oe,zB,zA,g,Bool.not_true,cond_false];rw[show(⟨xc,L⟩:RB).ctx=xc from rfl,hR.rhas,zB,zA,hc,cond_false,xWa e (by omega) xc L (by have:=hR.ll;omega),zA];rw[F.jy [e] (by simp) (fun x hx=>by rw[List.mem_singleton.1 hx];omega),zB,zA,C.rOf_eq _ (by omega),zB,zA,hjoin,zB,zA,hxe];rw[zIa _ e (zS hR.srt _) (fun x hx=>hne x (List.mem_filter.1 hx).1) (by have:=List.length_filter_le (fun x:EV=>!decide (x.kind=1)||!XE e.kills x.dot) L;have:=hR.ll;omega),zB,zA]
  rfl
 have hdots:∀ d∈yR (Un L e),C.ZR (W++C.zq (ya [e])) d.dev d.n=true:=fun d hd=>by
  rw[C.ZS];obtain⟨x,hx,h⟩:=vF.1 hd;rcases(hmem x).1 hx with rfl | ⟨hx,_⟩
  ·rw[Bool.or_eq_true];refine .inr ((C.has_dots _ _ _).2 ⟨d,D.zCa.2 (vF.2 ⟨x,by simp,h⟩),?_,rfl,rfl⟩);rcases h with rfl | h
   ·exact good_dot g
   ·exact(k3 d h).1
  ·rw[hR.dots d (vF.2 ⟨x,hx,h⟩)];rfl
 have halive:∀ x∈Un L e,x.kind=1->Vz (Un L e) x.dot=false:=fun x hx h1=>by
  rw[<- Bool.not_eq_true,VJ];rintro⟨y,hy,h2⟩;rcases(hmem x).1 hx with rfl | ⟨hx,h3⟩ <;> rcases(hmem y).1 hy with rfl | ⟨hy,_⟩
  ·exact(k3 _ h2).2 rfl
  ·have:=hR.dots _ (vF.2 ⟨y,hy,.inr h2⟩);rw[hc] at this;cases this
  ·exact h3.elim (fun h=>h h1) (fun h=>h h2)
  ·have:=hR.alive x hx h1;rw[<- Bool.not_eq_true,VJ] at this;exact this ⟨y,hy,h2⟩
 have base:∀ {a b:Bool} {p q:List (DT×EV)},Holds p (xY (Un L e))->Holds q (xx (Un L e))->(a=true->p=[])->(b=true->q=[]) ->
   Rep (n+600) (W++C.zq (ya [e])) (C.yH (W++C.zq (ya [e]))) (C.yH (W++C.zq (ya [e]))) a p b q (Un L e):=fun h1 h2 h3 h4=>
  ⟨rfl,fun k n=>C.yj _ _ _,VK (by omega) (by omega),h1,h2,h3,h4,hsP,fun x hx=>by
   rcases(hmem x).1 hx with rfl | ⟨hx,_⟩
   ·exact⟨g,oe⟩
   ·exact hR.good x hx,hdots,halive,hW1,hW2,by
   have h5:=insE_len (L.filter fun x=>!decide (x.kind=1)||!XE e.kills x.dot) e (zS hR.srt _);have h6:=List.length_filter_le (fun x:EV=>!decide (x.kind=1)||!XE e.kills x.dot) L;have:=hR.ll;unfold Un;omega⟩
 have hL1:=Holds.dels e.kills hR.live (zS hR.srt _);have hst1:uc ((xY L).filter fun x=>!XE e.kills x.dot):=zS (zS hR.srt _) _;rcases Jt g with hk | hk
 ·have h1:xY (Un L e)=Js ((xY L).filter fun x=>!XE e.kills x.dot) e:=vd (zS hsP _) (VH hst1 e) fun x=>by
   rw[xS,hmem,VI (fun x hx=>hne x (xS.1 (List.mem_filter.1 hx).1).1),List.mem_filter,xS,Bool.not_eq_true',<- Bool.not_eq_true,Yc]
   constructor
   ·rintro⟨rfl | ⟨h1,h2⟩,h3⟩
    ·exact .inl rfl
    ·exact .inr ⟨⟨h1,h3⟩,h2.resolve_left (fun h=>h h3)⟩
   ·rintro(rfl | ⟨⟨h1,h2⟩,h3⟩)
    ·exact⟨.inl rfl,hk⟩
    ·exact⟨.inr ⟨h1,.inr h3⟩,h2⟩
  have h2:xx (Un L e)=xx L:=vd (zS hsP _) (zS hR.srt _) fun x=>by
   rw[wi,hmem,wi]
   constructor
   ·rintro⟨rfl | ⟨h1,h2⟩,h3⟩
    ·omega
    ·exact⟨h1,h3⟩
   ·rintro⟨h1,h2⟩;exact⟨.inr ⟨h1,.inl (by omega)⟩,h2⟩
  refine⟨_,_,false,AL.set (e.kills.foldl AL.del m1) e.dot e,nl2,m2,?_,hr,base ?_ ?_ (fun h=>by cases h) hR.n2⟩
  ·unfold zk;rw[E.jv oe,zB,zA,g,Bool.not_true,cond_false,hR.has hn,zB,zA,hc,cond_false,F.jx [e] (by simp) (by omega),zB,zA,hadd,zB,zA,Ju e (by omega),zA,decide_eq_true hk,cond_true];rw[add_eq (by omega) (fun h=>by rw[hR.n1 h];exact JA _),zB,zA]
   rfl
  ·rw[h1];exact hL1.add hst1 fun x hx=>hne x (xS.1 (List.mem_filter.1 hx).1).1
  ·rw[h2];exact hR.tomb
 ·have h1:xY (Un L e)=(xY L).filter fun x=>!XE e.kills x.dot:=vd (zS hsP _) hst1 fun x=>by
   rw[xS,hmem,List.mem_filter,xS,Bool.not_eq_true',<- Bool.not_eq_true,Yc]
   constructor
   ·rintro⟨rfl | ⟨h1,h2⟩,h3⟩
    ·omega
    ·exact⟨⟨h1,h3⟩,h2.resolve_left (fun h=>h h3)⟩
   ·rintro⟨⟨h1,h2⟩,h3⟩;exact⟨.inr ⟨h1,.inr h3⟩,h2⟩
  have h2:xx (Un L e)=Js (xx L) e:=vd (zS hsP _) (VH (zS hR.srt _) e) fun x=>by
   rw[wi,hmem,VI (fun x hx=>hne x (wi.1 hx).1),wi]
   constructor
   ·rintro⟨rfl | ⟨h1,h2⟩,h3⟩
    ·exact .inl rfl
    ·exact .inr ⟨h1,h3⟩
   ·rintro(rfl | ⟨h1,h2⟩)
    ·exact⟨.inl rfl,hk⟩
    ·exact⟨.inr ⟨h1,.inl (by omega)⟩,h2⟩
  refine⟨_,_,nl1,e.kills.foldl AL.del m1,false,AL.set m2 e.dot e,?_,hr,base ?_ ?_ (fun h=>by rw[hR.n1 h];exact JA _) (fun h=>by cases h)⟩
  ·unfold zk;rw[E.jv oe,zB,zA,g,Bool.not_true,cond_false,hR.has hn,zB,zA,hc,cond_false,F.jx [e] (by simp) (by omega),zB,zA,hadd,zB,zA,Ju e (by omega),zA,decide_eq_false (show ¬ e.kind=1 by omega),cond_false];rw[add_eq (by omega) hR.n2,zB,zA]
   rfl
  ·rw[h1];exact hL1
  ·rw[h2];exact hR.tomb.add (zS hR.srt _) fun x hx=>hne x (wi.1 hx).1
end
open E (OkE xX uc)
open F (XE yR ya Vz)
section
variable{n:Nat}{W c xc:List PT}{nl1:Bool}{m1:List (DT×EV)}{nl2:Bool}{m2:List (DT×EV)}{L:List EV}
theorem JB(L:List EV):(xY L).length<=L.length:=List.length_filter_le _ _
theorem zJa(L:List EV):(xx L).length<=L.length:=List.length_filter_le _ _
theorem Rep.kl(hR:Rep n W c xc nl1 m1 nl2 m2 L):∀ e∈L,e.kills.length<=256:=fun e he=>(Um (hR.good e he).1).1
theorem Rep.Live(hR:Rep n W c xc nl1 m1 nl2 m2 L)(hn:n<=100000000):zl c nl1 m1 nl2 m2=pure (xY L):=by
 unfold zl;rw[zHa hR.live (zS hR.srt _) (by have:=JB L;have:=hR.ll;omega) (fun e he=>by have:=hR.kl e (xS.1 he).1;omega),zB,zA]
theorem Rep.Tombs(hR:Rep n W c xc nl1 m1 nl2 m2 L)(hn:n<=100000000):yq c nl1 m1 nl2 m2=pure (xx L):=by
 unfold yq;rw[zHa hR.tomb (zS hR.srt _) (by have:=zJa L;have:=hR.ll;omega) (fun e he=>by have:=hR.kl e (wi.1 he).1;omega),zB,zA]
theorem zza(L:List EV)(h:∀ e∈L,e.kind=1\/e.kind=2):(xY L++xx L).Perm L:=by
 induction L with
 | nil=>exact List.Perm.refl _
 | cons x r ih=>
  have ih:=ih fun e he=>h e (by simp[he])
  rcases h x (by simp) with h1 | h1
  ·have e1:xY (x::r)=x::xY r:=by unfold xY;rw[List.filter_cons,if_pos (by simp[h1])]
   have e2:xx (x::r)=xx r:=by unfold xx;rw[List.filter_cons,if_neg (by simp[h1])]
   rw[e1,e2];exact ih.cons x
  ·have e1:xY (x::r)=xY r:=by unfold xY;rw[List.filter_cons,if_neg (by simp[h1])]
   have e2:xx (x::r)=x::xx r:=by unfold xx;rw[List.filter_cons,if_pos (by simp[h1])]
   rw[e1,e2];exact List.perm_middle.trans (ih.cons x)
theorem Rep.kinds(hR:Rep n W c xc nl1 m1 nl2 m2 L):∀ e∈L,e.kind=1\/e.kind=2:=fun e he=>Jt (hR.good e he).1
theorem Rep.All(hR:Rep n W c xc nl1 m1 nl2 m2 L)(hn:n<=100000000):yS c nl1 m1 nl2 m2=pure L:=by
 unfold yS;rw[list2_eq hR.live hR.tomb (zza L hR.kinds) hR.srt (by have:=hR.ll;omega) (fun e he=>by have:=hR.kl e he;omega),zB,zA]
theorem Rep.Ctx(hR:Rep n W c xc nl1 m1 nl2 m2 L)(hn:n<=100000000):yt c nl1 m1 nl2 m2=pure (C.yH W):=by
 unfold yt;rw[C.jk c (hR.okc hn).sm,zB,zA,hR.ctx,C.Yb (C.xR W)]
theorem rkind_eq(l:List EV)(k:Int)(hl:l.length<=1000000000):jW l k=pure (l.filter fun e=>decide (e.kind=k)):=by
 unfold jW;rw[zya (body:=ZN l k) l (fun e=>decide (e.kind=k)) (fun t=>pure t) (fun i x t hx hi hI=>by
  have hd:decide ((i:Int) < (l.length:Int))=true:=by simpa using hi
  unfold ZN;simp only[hd,cond_true,zJ hx,zA,yC (show i < 9223372036854775807 by omega)]
  cases decide (x.kind=k) <;> simp only[cond_true,cond_false,zA,if_true,if_false,Bool.false_eq_true]
  rw[zE (by simp;omega)]
  rfl) (fun t=>by unfold ZN;simp[zA]),zA]
theorem Rep.rLive(hR:Rep n W c xc nl1 m1 nl2 m2 L)(hn:n<=100000000)(y:List PT):VB ⟨y,L⟩=pure (xY L):=by
 unfold VB;rw[rkind_eq L 1 (by have:=hR.ll;omega),zB,zA]
 rfl
theorem Rep.see(hR:Rep n W c xc nl1 m1 nl2 m2 L)(hn:n<=100000000){y:List PT}(hy:C.Ok y){k:Nat}(h1:y.length<=k)(h2:C.vT y<=k)(hk:k<=100000000) :
  ∃ c' xc',xt y c nl1 m1 nl2 m2=pure c'/\yta ⟨xc,L⟩ y=pure ⟨xc',L⟩/\Rep (n+k) (W++y) c' xc' nl1 m1 nl2 m2 L:=by
 have hc:=hR.okc hn;have hwl:=hR.wl;have hwt:=hR.wt;have hl:=C.uq W;have ht:=C.ur W;have e1:C.opC (·||·) xc y=C.yH (W++y):=(C.Ya rfl _ _).ext (C.xR _) fun k n=>by rw[C.WO rfl,C.yj,C.ZS,hR.xctx]
 refine⟨C.yH (W++y),C.yH (W++y),?_,?_,?_⟩
 ·unfold xt;rw[C.xAa c y (C.sm_app (by rw[hR.ctx];omega) (by rw[hR.ctx];omega)),zB,zA,hR.ctx,C.jp]
 ·unfold yta;rw[show(⟨xc,L⟩:RB).ctx=xc from rfl,C.jo xc y hR.xok hy,zB,zA,e1]
 ·exact⟨rfl,fun k n=>C.yj _ _ _,VK (by rw[List.length_append];omega) (by rw[C.YZ];omega),hR.live,hR.tomb,hR.n1,hR.n2,hR.srt,hR.good,fun d hd=>by rw[C.ZS,hR.dots d hd];rfl,hR.alive,by rw[List.length_append];omega,by rw[C.YZ];omega,by have:=hR.ll;omega⟩
def UL(e:EV):EV:=⟨e.dot,e.kind,e.cid,e.field,e.text,[]⟩
def Jv(L:List EV)(e:EV):List DT:=ya ((xY L).filter fun x=>if e.kind=1 then decide (x.cid=e.cid)&&decide (x.field=e.field) else decide (x.cid=e.cid))
theorem ofE_eq(l:List EV)(cid f:Int)(hl:l.length<=1000000)(hk:∀ e∈l,e.kind=1/\e.kills.length<=300):ui l cid f=pure (ya (l.filter fun x=>decide (x.cid=cid)&&decide (x.field=f))):=by
 unfold ui xC;have hf:=List.length_filter_le (fun x:EV=>decide (x.cid=cid)&&decide (x.field=f)) l;have hd:=F.vc (l.filter fun x=>decide (x.cid=cid)&&decide (x.field=f)) 300 fun e he=>(hk e (List.mem_filter.1 he).1).2
 rw[zya (body:=yB l cid f) l (fun x=>decide (x.cid=cid)&&decide (x.field=f)) (fun t=>pure t) (fun i x t hx hi hI=>by
  have hd:decide ((i:Int) < (l.length:Int))=true:=by simpa using hi
  unfold yB vH;simp only[hd,cond_true,zJ hx,zA,(hk x (List.mem_of_getElem? hx)).1,decide_true,zd,zB,yC (show i < 9223372036854775807 by omega)]
  cases decide (x.cid=cid) <;> cases decide (x.field=f) <;> simp only[cond_true,cond_false,zA,if_true,if_false,Bool.false_eq_true,Bool.and_true,Bool.and_false,Bool.true_and,Bool.false_and]
  rw[zE (by simp;omega)]
  rfl) (fun t=>by unfold yB;simp[zA]),zA,F.jx _ (by omega) (by omega),zB,zA,zB,zA]
theorem ofD_eq(l:List EV)(cid:Int)(hl:l.length<=1000000)(hk:∀ e∈l,e.kind=1/\e.kills.length<=300):wv l cid=pure (ya (l.filter fun x=>decide (x.cid=cid))):=by
 unfold wv yp;have hf:=List.length_filter_le (fun x:EV=>decide (x.cid=cid)) l;have hd:=F.vc (l.filter fun x=>decide (x.cid=cid)) 300 fun e he=>(hk e (List.mem_filter.1 he).1).2
 rw[zya (body:=zu l cid) l (fun x=>decide (x.cid=cid)) (fun t=>pure t) (fun i x t hx hi hI=>by
  have hd:decide ((i:Int) < (l.length:Int))=true:=by simpa using hi
  unfold zu xn;simp only[hd,cond_true,zJ hx,zA,(hk x (List.mem_of_getElem? hx)).1,decide_true,zB,yC (show i < 9223372036854775807 by omega)]
  cases decide (x.cid=cid) <;> simp only[cond_true,cond_false,zA,if_true,if_false,Bool.false_eq_true]
  rw[zE (by simp;omega)]
  rfl) (fun t=>by unfold zu;simp[zA]),zA,F.jx _ (by omega) (by omega),zB,zA,zB,zA]
theorem rofE_eq(l:List EV)(cid f:Int)(hl:l.length<=1000000)(hk:∀ e∈l,e.kind=1/\e.kills.length<=300):jX l cid f=pure (ya (l.filter fun x=>decide (x.cid=cid)&&decide (x.field=f))):=by
 unfold jX;have hf:=List.length_filter_le (fun x:EV=>decide (x.cid=cid)&&decide (x.field=f)) l;rw[zya (body:=ZO l cid f) l (fun x=>decide (x.cid=cid)&&decide (x.field=f)) (fun t=>pure t) (fun i x t hx hi hI=>by
  have hd:decide ((i:Int) < (l.length:Int))=true:=by simpa using hi
  unfold ZO;simp only[hd,cond_true,zJ hx,zA,(hk x (List.mem_of_getElem? hx)).1,decide_true,yC (show i < 9223372036854775807 by omega)]
  cases decide (x.cid=cid) <;> cases decide (x.field=f) <;> simp only[cond_true,cond_false,zA,if_true,if_false,Bool.false_eq_true,Bool.and_true,Bool.and_false,Bool.true_and,Bool.false_and]
  rw[zE (by simp;omega)]
  rfl) (fun t=>by unfold ZO;simp[zA]),zA,F.jy _ (by omega) (fun e he=>(hk e (List.mem_filter.1 he).1).2),zB,zA]
theorem rofD_eq(l:List EV)(cid:Int)(hl:l.length<=1000000)(hk:∀ e∈l,e.kind=1/\e.kills.length<=300):WJ l cid=pure (ya (l.filter fun x=>decide (x.cid=cid))):=by
 unfold WJ;have hf:=List.length_filter_le (fun x:EV=>decide (x.cid=cid)) l;rw[zya (body:=vY l cid) l (fun x=>decide (x.cid=cid)) (fun t=>pure t) (fun i x t hx hi hI=>by
  have hd:decide ((i:Int) < (l.length:Int))=true:=by simpa using hi
  unfold vY;simp only[hd,cond_true,zJ hx,zA,(hk x (List.mem_of_getElem? hx)).1,decide_true,yC (show i < 9223372036854775807 by omega)]
  cases decide (x.cid=cid) <;> simp only[cond_true,cond_false,zA,if_true,if_false,Bool.false_eq_true]
  rw[zE (by simp;omega)]
  rfl) (fun t=>by unfold vY;simp[zA]),zA,F.jy _ (by omega) (fun e he=>(hk e (List.mem_filter.1 he).1).2),zB,zA]
def xXa(W:List PT)(L:List EV)(e:EV):EV×Int:=
 if xX (UL e)=false then (⟨⟨0,0⟩,0,0,0,⟨#[]⟩,[]⟩,1) else if C.ZR W e.dot.dev e.dot.n=true then (⟨⟨0,0⟩,0,0,0,⟨#[]⟩,[]⟩,7)
 else if 256 < (Jv L e).length then (⟨⟨0,0⟩,0,0,0,⟨#[]⟩,[]⟩,3) else (⟨e.dot,e.kind,e.cid,e.field,e.text,Jv L e⟩,0)
theorem QI{e:EV}(h:OkE e):OkE (UL e):=⟨h.dot,h.kind,h.cid,h.field,h.text,(fun d hd=>nomatch hd),by simp[UL]⟩
theorem Rep.make(hR:Rep n W c xc nl1 m1 nl2 m2 L)(hn:n<=1000000){e:EV}(oe:OkE e) :
  yJ e c nl1 m1 nl2 m2=pure (xXa W L e)/\Qn ⟨xc,L⟩ e=pure (xXa W L e):=by
 have hll:=JB L;have hL:=hR.ll;have hk:∀ x∈xY L,x.kind=1/\x.kills.length<=300:=fun x hx=>⟨(xS.1 hx).2,by have:=hR.kl x (xS.1 hx).1;omega⟩
 have h1:=E.jv (QI oe);have h2:=E.VG (QI oe);have h3:=hR.has (by omega) e.dot;have h4:=hR.rhas e.dot;have a1:=ofE_eq (xY L) e.cid e.field (by omega) hk;have a2:=ofD_eq (xY L) e.cid (by omega) hk;have a3:=rofE_eq (xY L) e.cid e.field (by omega) hk;have a4:=rofD_eq (xY L) e.cid (by omega) hk;unfold xXa
 constructor
 ·unfold yJ;rw[show(⟨e.dot,e.kind,e.cid,e.field,e.text,([]:List DT)⟩:EV)=UL e from rfl,h1,zB,zA]
  cases xX (UL e) with
  | false=>rfl
  | true=>
   rw[Bool.not_true,cond_false,h3,zB,zA]
   cases C.ZR W e.dot.dev e.dot.n with
   | true=>rfl
   | false=>
    rw[cond_false,if_neg (by simp),if_neg (by simp)];have hq:(cond (decide (e.kind=1))
      (M.bind (M.det (zl c nl1 m1 nl2 m2)) fun y15=>M.bind (M.det (ui y15 e.cid e.field)) fun v17=>M.pure (Ex.brk v17))
      (M.bind (M.det (zl c nl1 m1 nl2 m2)) fun y19=>M.bind (M.det (wv y19 e.cid)) fun v21=>M.pure (Ex.brk v21)):M (Ex (List DT) (EV×Int)))=pure (Ex.brk (Jv L e)):=by
     rw[hR.Live (by omega),zB,zA,zA,a1,a2,zB,zB,zA,zA,XL];unfold Jv
     by_cases h:e.kind=1 <;> simp[h]
    rw[hq,zA,Xz,yi]
    by_cases h:256 < (Jv L e).length
    ·rw[if_pos h,if_pos (by omega)]
    ·rw[if_neg h,if_neg (by omega)]
 ·unfold Qn;rw[show(⟨e.dot,e.kind,e.cid,e.field,e.text,([]:List DT)⟩:EV)=UL e from rfl,h2,zB,zA]
  cases xX (UL e) with
  | false=>rfl
  | true=>
   rw[Bool.not_true,cond_false,show(⟨xc,L⟩:RB).ctx=xc from rfl,h4,zB,zA]
   cases C.ZR W e.dot.dev e.dot.n with
   | true=>rfl
   | false=>
    rw[cond_false,if_neg (by simp),if_neg (by simp),hR.rLive (by omega),zB,zA,a4,zB,zA];simp only[zA,a3,zB];rw[XL,zA];have hq:(cond (decide (e.kind=1)) (ya ((xY L).filter fun x=>decide (x.cid=e.cid)&&decide (x.field=e.field))) (ya ((xY L).filter fun x=>decide (x.cid=e.cid))))=Jv L e:=by
     unfold Jv
     by_cases h:e.kind=1 <;> simp[h]
    rw[hq,yi]
    by_cases h:256 < (Jv L e).length
    ·rw[if_pos h,if_pos (by omega)]
    ·rw[if_neg h,if_neg (by omega)]
end
open E (OkE xX uc)
open F (XE yR ya Vz)
theorem zKa{l:List EV}:uc l↔D.Srt (l.map (·.dot)):=by
 unfold uc D.Srt;rw[List.pairwise_map]
theorem Zx{l l':List EV}(h:uc l)(e:l'.map (·.dot)=l.map (·.dot)):uc l':=by rw[zKa,e,<- zKa];exact h
def yU(y:List PT)(x:EV):EV:=if C.ZR y x.dot.dev x.dot.n=true then UL x else x
theorem Zy(y:List PT)(x:EV):(yU y x).dot=x.dot:=by unfold yU;split <;> rfl
theorem Yd(y:List PT)(x:EV):(yU y x).kind=x.kind:=by unfold yU;split <;> rfl
theorem UC(y:List PT)(x:EV):∀ d∈(yU y x).kills,d∈x.kills:=by
 unfold yU
 split
 ·intro d hd;cases hd
 ·intro d hd;exact hd
theorem z0a{y:List PT}{x:EV}(h:xX x=true/\OkE x):xX (yU y x)=true/\OkE (yU y x):=by
 unfold yU
 split
 ·refine⟨?_,QI h.2⟩;have:=h.1;simp only[xX,Bool.and_eq_true] at this ⊢;exact⟨this.1,this.2.1,rfl⟩
 ·exact h
theorem wj(y:List PT)(l:List EV):(l.map (yU y)).map (·.dot)=l.map (·.dot):=by
 rw[List.map_map];exact List.map_congr_left fun x _=>Zy y x
theorem Strip_eq(x:EV){y:List PT}(hy:C.Ok y)(hk:x.kills.length<=1000000000):ZD x y=pure (yU y x):=by
 unfold ZD;rw[jw x (by omega),zB,zA,C.y8a y x.dot hy.sm,zB,zA,XL,zA];unfold yU UL
 cases C.ZR y x.dot.dev x.dot.n <;> rfl
theorem xYa(x:EV){y:List PT}(hy:C.Ok y):Vk x y=pure (yU y x):=by
 unfold Vk;rw[C.Zt y x.dot hy,zB,zA,XL,zA];unfold yU UL
 cases C.ZR y x.dot.dev x.dot.n <;> rfl
def xE(y:List PT)(x:EV):Bool:=C.ZR y x.dot.dev x.dot.n
def vU(y:List PT)(L:List EV):List EV:=(L.filter fun x=>decide (x.kind=1)||!xE y x).map (yU y)
theorem zLa{m:List (DT×EV)}{A B:List EV}{x x':EV}(h:Holds m (A++x::B))(hs:uc (A++x::B))(hd:x'.dot=x.dot):Holds (AL.set m x.dot x') (A++x'::B):=by
 have hs':uc (A++x'::B):=Zx hs (by simp[hd]);refine jz (AL.nodup_set (h.keys hs) _ _) hs' fun k=>?_
 rw[xUa (h.keys hs),h.mem];have hne:∀ z,z∈A\/z∈B->z.dot≠x.dot:=fun z hz e=>by
  have hz':z∈A++x::B:=by rw[List.mem_append,List.mem_cons];exact hz.imp (fun h=>h) .inr
  have e2:=srtE_one hs hz' (by simp) e;subst e2;have h2:=Xs hs;rw[List.map_append,List.map_cons,List.nodup_append,List.nodup_cons] at h2;rcases hz with hz | hz
  ·exact h2.2.2 _ (List.mem_map.2 ⟨z,hz,rfl⟩) _ (by simp) rfl
  ·exact h2.2.1.1 (List.mem_map.2 ⟨z,hz,rfl⟩)
 simp only[List.mem_append,List.mem_cons]
 constructor
 ·rintro(⟨⟨h1,h2⟩,h3⟩ | h1)
  ·refine⟨?_,h2⟩;rcases h1 with h1 | h1 | h1
   ·exact .inl h1
   ·exact absurd (by rw[h2,h1]) h3
   ·exact .inr (.inr h1)
  ·rw[h1];exact⟨.inr (.inl rfl),hd.symm⟩
 ·rintro⟨h1 | h1 | h1,h2⟩
  ·exact .inl ⟨⟨.inl h1,h2⟩,by rw[h2];exact hne _ (.inl h1)⟩
  ·refine .inr ?_;obtain⟨k1,k2⟩:=k;simp only at h1 h2;rw[h2,h1,hd]
  ·exact .inl ⟨⟨.inr (.inr h1),h2⟩,by rw[h2];exact hne _ (.inr h1)⟩
theorem has_of{m:List (DT×EV)}{l:List EV}(h:Holds m l)(hs:uc l){x:EV}(hx:x∈l):AL.has m x.dot=true:=by
 unfold AL.has;have:=AL.mem_get (h.keys hs) ((Holds.mem h (k:=(x.dot,x))).2 ⟨hx,rfl⟩);rw[this];rfl
theorem z1a{y:List PT}(hy:C.Ok y)(l:List EV)(hl:l.length<=1000000000)(hk:∀ e∈l,e.kills.length<=300)(hs:uc l){nl:Bool}{m:List (DT×EV)}(h:Holds m l) :
  ∃ m',uR l y nl m=pure (nl,m')/\Holds m' (l.map (yU y))/\(m=[]->m'=[]):=by
 have h1:=ZL (body:=xq l y nl) l (fun i (t:List (DT×EV))=>((i:Int),t)) (fun t x=>AL.set t x.dot (yU y x)) (fun t=>pure (nl,t))
  (fun i t=>Holds t ((l.take i).map (yU y)++l.drop i)) (fun i x t hx hi hI=>by
   have hd:decide ((i:Int) < (l.length:Int))=true:=by simpa using hi
   have hdr:l.drop i=x::l.drop (i+1):=by
    rw[List.drop_eq_getElem_cons hi]
    congr 1
    rw[List.getElem?_eq_getElem hi] at hx;exact Option.some.inj hx
   have htk:l.take (i+1)=l.take i++[x]:=by rw[List.take_add_one,hx];rfl
   have hss:uc ((l.take i).map (yU y)++x::l.drop (i+1)):=by
    rw[<- hdr];refine Zx hs ?_;rw[List.map_append,wj,<- List.map_append,List.take_append_drop]
   rw[hdr] at hI;refine⟨?_,?_⟩
   ·unfold xq;have hh:=has_of hI hss (x:=x) (by simp);simp only[hd,cond_true,zJ hx,zA,hh,Strip_eq x hy (by have:=hk x (List.mem_of_getElem? hx);omega),zB,yC (show i < 9223372036854775807 by omega)];rw[zE trivial,zA]
   ·rw[htk,List.map_append,List.append_assoc];exact zLa hI hss (Zy y x)) (fun t _=>by
   unfold xq;simp[zA]) m (by simpa using h)
 have hinv:∀ (k i:Nat) (t:List (DT×EV)),i+k=l.length->Holds t ((l.take i).map (yU y)++l.drop i)->Holds ((l.drop i).foldl (fun t x=>AL.set t x.dot (yU y x)) t) (l.map (yU y)):=by
  intro k
  induction k with
  | zero=>
   intro i t hi ht;have:i=l.length:=by omega
   subst this;rw[List.drop_length,List.take_length,List.append_nil] at ht;rw[List.drop_length];exact ht
  | succ k ih=>
   intro i t hi ht;have hlt:i < l.length:=by omega
   have hdr:=List.drop_eq_getElem_cons hlt;have htk:l.take (i+1)=l.take i++[l[i]]:=by rw[List.take_add_one,List.getElem?_eq_getElem hlt];rfl
   have hss:uc ((l.take i).map (yU y)++l[i]::l.drop (i+1)):=by
    rw[<- hdr];refine Zx hs ?_;rw[List.map_append,wj,<- List.map_append,List.take_append_drop]
   rw[hdr,List.foldl_cons];refine ih (i+1) _ (by omega) ?_;rw[htk,List.map_append,List.append_assoc];rw[hdr] at ht;exact zLa ht hss (Zy y _)
 refine⟨l.foldl (fun(t:List (DT×EV)) (x:EV)=>AL.set t x.dot (yU y x)) m,by unfold uR;exact h1,by simpa using hinv l.length 0 m (by omega) (by simpa using h),fun hm=>?_⟩;subst hm;have:l=[]:=by
  have:=h.len;simpa using this.symm
 rw[this];rfl
section
variable{n:Nat}{W c xc:List PT}{nl1:Bool}{m1:List (DT×EV)}{nl2:Bool}{m2:List (DT×EV)}{L:List EV}
theorem Rep.Live'(hR:Rep n W c xc nl1 m1 nl2 m2 L)(hn:n<=100000000)(c':List PT)(b:Bool)(m':List (DT×EV)):zl c' nl1 m1 b m'=pure (xY L):=hR.Live hn
theorem xZa{y:List PT}(hy:C.Ok y)(T:List EV)(hl:T.length<=1000000000)(m:List (DT×EV)) :
  loop (yL T y) (0,0,m)=pure (((T.filter (xE y)).length:Int),((T.filter (xE y)).map (·.dot)).foldl AL.del m):=by
 have h1:=ZL (body:=yL T y) T (fun i (t:List EV×List (DT×EV))=>((t.1.length:Int),(i:Int),t.2)) (fun t x=>if xE y x=true then (t.1++[x],AL.del t.2 x.dot) else t) (fun t=>pure ((t.1.length:Int),t.2))
  (fun i t=>t.1.length<=i) (fun i x t hx hi hI=>by
   have hd:decide ((i:Int) < (T.length:Int))=true:=by simpa using hi
   refine⟨?_,?_⟩
   ·unfold yL;have hh:uY y x.dot=pure (xE y x):=C.y8a y x.dot hy.sm;simp only[hd,cond_true,zJ hx,zA,hh,zB,yC (show i < 9223372036854775807 by omega)]
    cases xE y x with
    | true=>
     simp only[cond_true,if_true,zA];rw[yC (by omega)];simp
    | false=>simp[zA]
   ·split
    ·simp only[List.length_append,List.length_singleton];omega
    ·omega) (fun t _=>by
   unfold yL;simp[zA]) ([],m) (Nat.le_refl _)
 have hf:∀ (q:List EV) (t:List EV×List (DT×EV)),q.foldl (fun t x=>if xE y x=true then (t.1++[x],AL.del t.2 x.dot) else t) t=(t.1++q.filter (xE y),((q.filter (xE y)).map (·.dot)).foldl AL.del t.2):=by
  intro q
  induction q with
  | nil=>intro t;simp
  | cons x r ih=>
   intro t;rw[List.foldl_cons,ih,List.filter_cons]
   split <;> simp_all
 rw[hf] at h1;exact h1
theorem QJ{y:List PT}(hy:C.Ok y)(xc:List PT)(L:List EV)(hl:L.length<=1000000000):loop (vE ⟨xc,L⟩ y) (0,[])=pure (vU y L):=by
 have h1:=ZL (body:=vE ⟨xc,L⟩ y) L (fun i (t:List EV)=>((i:Int),t)) (fun t x=>if (decide (x.kind=1)||!xE y x)=true then t++[yU y x] else t) (fun t=>pure t)
  (fun i t=>t.length<=i) (fun i x t hx hi hI=>by
   have hd:decide ((i:Int) < (L.length:Int))=true:=by simpa using hi
   refine⟨?_,by split <;> (try rw[List.length_append,List.length_singleton]) <;> omega⟩;unfold vE;have hh:wW y x.dot=pure (xE y x):=C.Zt y x.dot hy;simp only[hd,cond_true,zJ hx,zA,hh,zB,xYa x hy,yC (show i < 9223372036854775807 by omega)]
   cases decide (x.kind=1) <;> cases xE y x <;> simp only[Bool.not_true,Bool.not_false,cond_true,cond_false,zA,Bool.or_true,Bool.or_false,Bool.true_or,Bool.false_or,if_true,if_false,Bool.false_eq_true]
   all_goals (try rw[zE (by simp;omega)])
   all_goals rfl) (fun t _=>by unfold vE;simp[zA]) [] (Nat.le_refl _)
 have hf:∀ (q t:List EV),q.foldl (fun t x=>if (decide (x.kind=1)||!xE y x)=true then t++[yU y x] else t) t=t++(q.filter fun x=>decide (x.kind=1)||!xE y x).map (yU y):=by
  intro q
  induction q with
  | nil=>intro t;simp
  | cons x r ih=>intro t;rw[List.foldl_cons,ih,List.filter_cons];split <;> simp
 rw[hf,List.nil_append] at h1;exact h1
theorem Rep.prune(hR:Rep n W c xc nl1 m1 nl2 m2 L)(hn:n<=100000000){y:List PT}(hy:C.Ok y) :
  ∃ k nl1' m1' nl2' m2',yr y c nl1 m1 nl2 m2=pure (k,nl1',m1',nl2',m2')/\Ji ⟨xc,L⟩ y=pure (⟨xc,vU y L⟩,k)/\Rep n W c xc nl1' m1' nl2' m2' (vU y L)/\k=((xx L).filter (xE y)).length:=by
 have hll:=hR.ll;have hl1:=JB L;have ht1:=zJa L;obtain⟨m1',h1,h2,h3⟩:=z1a (nl:=nl1) hy (xY L) (by omega) (fun e he=>by have:=hR.kl e (xS.1 he).1;omega) (zS hR.srt _) hR.live;have hdel:=Holds.dels ((xx L).filter (xE y) |>.map (·.dot)) hR.tomb (zS hR.srt _);have hP:∀ x∈L,(decide (x.kind=1)||!xE y x)=true↔(x.kind=1\/xE y x=false):=fun x _=>by simp
 have hsP:uc (vU y L):=Zx (zS hR.srt (fun x=>decide (x.kind=1)||!xE y x)) (wj y _);have mem_p:∀ z,z∈vU y L↔∃ x∈L,(x.kind=1\/xE y x=false)/\yU y x=z:=fun z=>by
  unfold vU;rw[List.mem_map]
  constructor
  ·rintro⟨x,hx,e⟩;rw[List.mem_filter] at hx;exact⟨x,hx.1,(hP x hx.1).1 hx.2,e⟩
  ·rintro⟨x,hx,hp,e⟩;exact⟨x,List.mem_filter.2 ⟨hx,(hP x hx).2 hp⟩,e⟩
 have hlive:xY (vU y L)=(xY L).map (yU y):=by
  refine vd (zS hsP _) (Zx (zS hR.srt _) (wj y _)) fun z=>?_
  rw[xS,mem_p,List.mem_map]
  constructor
  ·rintro⟨⟨x,hx,hp,rfl⟩,hz⟩;exact⟨x,xS.2 ⟨hx,by rw[<- Yd y x];exact hz⟩,rfl⟩
  ·rintro⟨x,hx,rfl⟩;obtain⟨h4,h5⟩:=xS.1 hx;exact⟨⟨x,h4,.inl h5,rfl⟩,by rw[Yd];exact h5⟩
 have htomb:xx (vU y L)=(xx L).filter fun e=>!XE ((xx L).filter (xE y) |>.map (·.dot)) e.dot:=by
  refine vd (zS hsP _) (zS (zS hR.srt _) _) fun z=>?_
  rw[wi,mem_p,List.mem_filter,wi,Bool.not_eq_true',<- Bool.not_eq_true,Yc];have hsn:∀ x:EV,xE y x=false->yU y x=x:=fun x h=>by
   unfold yU;rw[if_neg];show ¬ xE y x=true;rw[h];simp
  constructor
  ·rintro⟨⟨x,hx,hp,rfl⟩,hz⟩;rw[Yd] at hz;have hs:xE y x=false:=hp.resolve_left (by omega);rw[hsn x hs];refine⟨⟨hx,hz⟩,fun h=>?_⟩;obtain⟨w,hw,e⟩:=List.mem_map.1 h;have h4:=(List.mem_filter.1 hw).2;unfold xE at h4 hs;rw[e,hs] at h4;cases h4
  ·rintro⟨⟨hx,hz⟩,h⟩;have hs:xE y z=false:=by
    cases h4:xE y z with
    | false=>rfl
    | true=>exact absurd (List.mem_map.2 ⟨z,List.mem_filter.2 ⟨wi.2 ⟨hx,hz⟩,h4⟩,rfl⟩) h
   exact⟨⟨z,hx,.inr hs,hsn z hs⟩,hz⟩
 have hlen:(L.length:Int) - ((vU y L).length:Int)=((xx L).filter (xE y)).length:=by
  have e1:(vU y L).length=(L.filter fun x=>decide (x.kind=1)||!xE y x).length:=by unfold vU;rw[List.length_map]
  have e2:(xx L).filter (xE y)=L.filter fun x=>!(decide (x.kind=1)||!xE y x):=by
   unfold xx;rw[List.filter_filter];refine List.filter_congr fun x hx=>?_
   rcases hR.kinds x hx with h | h <;> simp[h]
  have e3:∀ (q:List EV) (p:EV->Bool),q.length=(q.filter p).length+(q.filter fun x=>!p x).length:=by
   intro q p
   induction q with
   | nil=>rfl
   | cons x r ih=>rw[List.filter_cons,List.filter_cons];cases p x <;> simp <;> omega
  have:=e3 L fun x=>decide (x.kind=1)||!xE y x
  rw[e1,e2];omega
 have hle:(vU y L).length<=L.length:=by unfold vU;rw[List.length_map];exact List.length_filter_le _ _
 refine⟨_,nl1,m1',nl2,((xx L).filter (xE y) |>.map (·.dot)).foldl AL.del m2,?_,?_,?_,rfl⟩
 ·unfold yr;rw[hR.Tombs hn,zB,zA,xZa hy (xx L) (by omega),zA];simp only[];rw[hR.Live' hn,zB,zA,h1,zB,zA]
 ·unfold Ji;rw[QJ hy xc L (by omega),zA];simp only[];rw[UF (by omega) (by omega),hlen]
 ·refine⟨hR.ctx,hR.xctx,hR.xok,by rw[hlive];exact h2,by rw[htomb];exact hdel,fun h=>h3 (hR.n1 h),fun h=>by rw[hR.n2 h];exact JA _,hsP,fun z hz=>?_,fun d hd=>?_,fun z hz hk=>?_,hR.wl,hR.wt,by omega⟩
  ·obtain⟨x,hx,_,rfl⟩:=(mem_p z).1 hz;exact z0a (hR.good x hx)
  ·obtain⟨z,hz,h⟩:=vF.1 hd;obtain⟨x,hx,_,rfl⟩:=(mem_p z).1 hz;refine hR.dots d (vF.2 ⟨x,hx,?_⟩);rw[Zy] at h;exact h.imp (fun h=>h) (UC y x d)
  ·obtain⟨x,hx,_,rfl⟩:=(mem_p z).1 hz;rw[Yd] at hk;rw[Zy,<- Bool.not_eq_true,VJ];rintro⟨w,hw,h⟩;obtain⟨v,hv,_,rfl⟩:=(mem_p w).1 hw;have:=hR.alive x hx hk;rw[<- Bool.not_eq_true,VJ] at this;exact this ⟨v,hv,UC y v _ h⟩
end
open E (OkE xX uc)
open F (XE yR ya Vz)
theorem delF{body:Int×Int×List EV->M (Step (Int×Int×List EV) (Int×List EV))}(p:EV->Bool)(l:List EV)(hl:l.length<=1000000000)
  (hb1:∀ (i j:Nat) (v:List EV) (x:EV),v[j]?=some x->j < v.length->i < j->v.length<=1000000000->body ((i:Int),(j:Int),v)=pure (.next (if p x=true then ((i:Int),((j+1:Nat):Int),v) else (((i+1:Nat):Int),((j+1:Nat):Int),v.set i x))))
  (hb2:∀ (i:Int) (v:List EV),body (i,(v.length:Int),v)=pure (.done (i,v))) :
  ∀ (k i j:Nat) (v:List EV),j+k=l.length->v.length=l.length->i < j->i=((l.take j).filter fun x=>!p x).length->v.take i=(l.take j).filter (fun x=>!p x)->v.drop j=l.drop j ->
   ∃ v',loop body ((i:Int),(j:Int),v)=pure (((l.filter fun x=>!p x).length:Int),v')/\v'.length=l.length/\v'.take (l.filter fun x=>!p x).length=l.filter fun x=>!p x:=by
 intro k
 induction k with
 | zero=>
  intro i j v hj hv hij hi ht hd;have e:j=v.length:=by omega
  subst e;rw[zr (hb2 _ _)];rw[hv,List.take_length] at hi ht;exact⟨v,by rw[hi],hv,by rw[<- hi];exact ht⟩
 | succ k ih=>
  intro i j v hj hv hij hi ht hd;have hlt:j < v.length:=by omega
  have hx:=List.getElem?_eq_getElem hlt;have hlx:l[j]?=some v[j]:=by
   have:=congrArg (fun q:List EV=>q[0]?) hd;simp only[List.getElem?_drop,Nat.add_zero] at this;rw[<- this];exact hx
  have htk:l.take (j+1)=l.take j++[v[j]]:=by rw[List.take_add_one,hlx];rfl
  rw[yD (hb1 i j v _ hx hlt hij (by omega))];have hd1:v.drop (j+1)=l.drop (j+1):=by
   have:=congrArg (fun q:List EV=>q.drop 1) hd;simpa[List.drop_drop,Nat.add_comm] using this
  by_cases c:p v[j]=true
  ·rw[if_pos c];refine ih i (j+1) v (by omega) hv (by omega) ?_ ?_ hd1
   ·rw[htk,List.filter_append,List.filter_cons,if_neg (by simp[c])];simpa using hi
   ·rw[htk,List.filter_append,List.filter_cons,if_neg (by simp[c])];simpa using ht
  ·rw[if_neg c];have hf:(l.take (j+1)).filter (fun x=>!p x)=(l.take j).filter (fun x=>!p x)++[v[j]]:=by
    rw[htk,List.filter_append,List.filter_cons,if_pos (by simp[c])];rfl
   refine ih (i+1) (j+1) (v.set i v[j]) (by omega) (by rw[List.length_set];exact hv) (by omega) ?_ ?_ ?_
   ·rw[hf,List.length_append,List.length_singleton,<- hi]
   ·have hls:i < (v.set i v[j]).length:=by rw[List.length_set];omega
    rw[hf,List.take_add_one,List.take_set,List.getElem?_set_self (by omega),ht];have:((l.take j).filter fun x=>!p x).set i v[j]=(l.take j).filter fun x=>!p x:=List.set_eq_of_length_le (by omega)
    rw[this];rfl
   ·rw[List.drop_set,if_pos (by omega)];exact hd1
theorem z2a(l:List EV)(p:EV->Bool):∀ b:Nat,match (l.zipIdx b).find? (fun y=>p y.1) with
  | some y=>b<=y.2/\y.2 - b < l.length/\(l.take (y.2 - b)).all (fun x=>!p x)=true/\∃ x,l[y.2 - b]?=some x/\p x=true
  | none=>l.filter (fun x=>!p x)=l:=by
 induction l with
 | nil=>intro b;simp
 | cons x r ih=>
  intro b;rw[List.zipIdx_cons,List.find?_cons]
  cases hp:p x with
  | true=>simp[hp]
  | false=>
   simp only[];have h:=ih (b+1)
   revert h
   cases (r.zipIdx (b+1)).find? (fun y=>p y.1) with
   | none=>intro h;rw[List.filter_cons,if_pos (by simp[hp]),h]
   | some y=>
    rintro⟨h1,h2,h3,z,h4,h5⟩;have e:y.2 - b=(y.2 - (b+1))+1:=by omega
    refine⟨by omega,by simp;omega,?_,z,?_,h5⟩
    ·rw[e,List.take_succ_cons,List.all_cons,hp];exact h3
    ·rw[e,List.getElem?_cons_succ];exact h4
theorem z3a{l:List EV}{p:EV->Bool}(h:l.all (fun x=>!p x)=true):l.filter (fun x=>!p x)=l:=List.filter_eq_self.2 fun x hx=>List.all_eq_true.1 h x hx
theorem z4a(p:EV->Bool)(l:List EV)(hl:l.length<=1000000000)(ask:M Int)(body:Int×Int×List EV->M (Step (Int×Int×List EV) (Int×List EV)))(z:EV)
  (hask:ask=match l.zipIdx.find? (fun y=>p y.1) with | some y=>pure (y.2:Int) | none=>pure (-1))
  (hb1:∀ (i j:Nat) (v:List EV) (x:EV),v[j]?=some x->j < v.length->i < j->v.length<=1000000000->body ((i:Int),(j:Int),v)=pure (.next (if p x=true then ((i:Int),((j+1:Nat):Int),v) else (((i+1:Nat):Int),((j+1:Nat):Int),v.set i x))))
  (hb2:∀ (i:Int) (v:List EV),body (i,(v.length:Int),v)=pure (.done (i,v))) :
  (M.bind (M.det ask) fun v3=>cond (decide (v3=(-1))) (M.pure l) (M.bind (M.loop body (v3,(IntKind.i64.wrap (v3+1)),l)) (fun⟨i6,v7⟩=>
   M.yo ((0:Int)<=i6/\i6<=(v7.length:Int))<|M.yo ((Int.toNat i6)+(v7.length - Int.toNat i6)<=v7.length) <|
   M.yo ((0:Int)<=0/\(0:Int)<=i6/\i6<=(List.length ((List.take (Int.toNat i6) v7++List.replicate (v7.length - Int.toNat i6) z++List.drop ((Int.toNat i6)+(v7.length - Int.toNat i6)) v7)):Int)) <|
   M.pure ((List.take (Int.toNat i6) ((List.take (Int.toNat i6) v7++List.replicate (v7.length - Int.toNat i6) z++List.drop ((Int.toNat i6)+(v7.length - Int.toNat i6)) v7)))))):M (List EV))=pure (l.filter fun x=>!p x):=by
 have hf:=z2a l p 0
 revert hf
 rw[hask]
 cases l.zipIdx.find? (fun y=>p y.1) with
 | none=>intro hf;rw[hf];simp[zB,zA]
 | some y=>
  rintro⟨h1,h2,h3,x,h4,h5⟩;simp only[Nat.sub_zero] at h2 h3 h4;have hne:decide ((y.2:Int)=-1)=false:=decide_eq_false (by omega);have hall:=z3a h3;have hlen:(l.take y.2).length=y.2:=by rw[List.length_take];omega
  have htk:l.take (y.2+1)=l.take y.2++[x]:=by rw[List.take_add_one,h4];rfl
  have hft:(l.take (y.2+1)).filter (fun x=>!p x)=l.take y.2:=by rw[htk,List.filter_append,hall,List.filter_cons,if_neg (by simp[h5])];simp
  obtain⟨v',e1,e2,e3⟩:=delF (body:=body) p l hl hb1 hb2 (l.length - (y.2+1)) y.2 (y.2+1) l (by omega) rfl (by omega) (by rw[hft,hlen]) (by rw[hft]) rfl;have hle:=List.length_filter_le (fun x=>!p x) l;simp only[zB,zA,hne,cond_false,yC (show y.2 < 9223372036854775807 by omega),e1,Int.toNat_natCast];rw[zE (by omega),zE (by omega),zE (by simp;omega)];rw[List.append_assoc,List.take_append_of_le_length (by rw[List.length_take];omega),List.take_take,Nat.min_self,e3]
theorem DelOf_eq(l:List EV)(cid:Int)(hl:l.length<=1000000000):zO cid l=pure (l.filter fun x=>decide (x.cid=cid)):=by
 unfold zO;have h:=z4a (fun x=>!decide (x.cid=cid)) l hl (zU l cid) (zM cid) ⟨⟨0,0⟩,0,0,0,⟨#[]⟩,[]⟩ (by
  unfold zU;have:=loopF (body:=zN l cid) l (fun i=>(i:Int)) (fun _ x=>!decide (x.cid=cid)) (fun i _=>Ex.ret (i:Int)) (pure (Ex.brk ())) (fun i x hx hi=>by
   have hd:decide ((i:Int) < (l.length:Int))=true:=by simpa using hi
   unfold zN yh;simp only[hd,cond_true,zJ hx,zA,zB,yC (show i < 9223372036854775807 by omega)]
   cases decide (x.cid=cid) <;> rfl) (by
   unfold zN;simp[zA])
  rw[show(0:Int)=((0:Nat):Int) from rfl,this]
  cases l.zipIdx.find? (fun y=>!decide (y.1.cid=cid)) <;> rfl) (fun i j v x hx hj hij hv=>by
  have hd:decide ((j:Int) < (v.length:Int))=true:=by simpa using hj
  obtain⟨w,hw⟩:∃ w,v[i]?=some w:=⟨_,List.getElem?_eq_getElem (by omega)⟩
  unfold zM yh;simp only[hd,cond_true,zJ hx,zJ hw,zA,zB,yC (show j < 9223372036854775807 by omega),yC (show i < 9223372036854775807 by omega),Int.toNat_natCast]
  cases decide (x.cid=cid) <;> rfl) (fun i v=>by
  unfold zM;simp[zA])
 rw[h];simp
section
variable{n:Nat}{W c xc:List PT}{nl1:Bool}{m1:List (DT×EV)}{nl2:Bool}{m2:List (DT×EV)}{L:List EV}
end
open E (OkE xX uc)
open F (XE yR ya Vz)
def exA : EV:=⟨⟨1,1⟩,1,281474976710657,1,⟨#[97]⟩,[]⟩
def exB : EV:=⟨⟨1,2⟩,2,281474976710657,0,⟨#[]⟩,[]⟩
def exC : EV:=⟨⟨1,2⟩,2,281474976710657,0,⟨#[]⟩,[⟨1,1⟩]⟩
theorem okA : OkE exA:=⟨⟨by decide,by decide,by decide,by decide⟩,by decide,by decide,by decide,by decide,(fun d hd=>nomatch hd),by decide⟩
theorem okB : OkE exB:=⟨⟨by decide,by decide,by decide,by decide⟩,by decide,by decide,by decide,by decide,(fun d hd=>nomatch hd),by decide⟩
theorem okC : OkE exC:=⟨⟨by decide,by decide,by decide,by decide⟩,by decide,by decide,by decide,by decide,(fun d hd=>by
 rw[show exC.kills=[⟨1,1⟩] from rfl,List.mem_singleton] at hd;subst hd;exact⟨by decide,by decide,by decide,by decide⟩),by decide⟩
theorem mkA : xXa [] [] exA=(exA,0):=by decide
theorem putA : Un [] exA=[exA]:=by decide
theorem gA : xX exA=true:=by decide
theorem gC : xX exC=true:=by decide
def wA : List PT:=[]++C.zq (ya [exA])
theorem mkB : xXa wA [exA] exB=(exC,0):=by decide
theorem putC : Un [exA] exC=[exC]:=by decide
theorem QK : vq=pure true:=by
 have hm1:yJ exA [] true [] true []=pure (exA,0):=by rw[<- mkA];exact(Rep.new.make (by omega) okA).1
 obtain⟨c1,x1,a1,p1,b1,q1,hp1,_,R1⟩:=Rep.new.put (by omega) okA gA (by decide);rw[putA] at R1;have hm2:yJ exB c1 a1 p1 b1 q1=pure (exC,0):=by rw[<- mkB];exact(R1.make (by omega) okB).1
 obtain⟨c2,x2,a2,p2,b2,q2,hp2,_,R2⟩:=R1.put (by omega) okC gC (by decide);rw[putC] at R2;have hl:=R2.Live (by omega);have ht:=R2.Tombs (by omega);have ho:=C.rOf_eq [exC.dot] (by simp);obtain⟨k,a3,p3,b3,q3,hp3,_,R3,hk⟩:=R2.prune (by omega) (C.jq (l:=[exC.dot]) (by simp));have hpr:vU (C.yH (C.zq [exC.dot])) [exC]=[]:=by
  unfold vU;have:xE (C.yH (C.zq [exC.dot])) exC=true:=by unfold xE;rw[C.yj];decide
  rw[List.filter_cons,this];rfl
 have hk1:k=1:=by
  have:xE (C.yH (C.zq [exC.dot])) exC=true:=by unfold xE;rw[C.yj];decide
  rw[hk,show xx [exC]=[exC] by decide,List.filter_cons,this];rfl
 subst hk1;rw[hpr] at R3;have hall:=R3.All (by omega);have hctx:=R3.Ctx (by omega);have hw:C.Ok (C.yH ([]++C.zq (ya [exA])++C.zq (ya [exC]))):=VK (by decide) (by decide);have h1:wW (C.yH ([]++C.zq (ya [exA])++C.zq (ya [exC]))) exA.dot=pure true:=by
  rw[C.Zt _ _ hw,C.yj];exact congrArg pure (by decide)
 have h2:wW (C.yH ([]++C.zq (ya [exA])++C.zq (ya [exC]))) exC.dot=pure true:=by
  rw[C.Zt _ _ hw,C.yj];exact congrArg pure (by decide)
 unfold vq um;rw[show(⟨(⟨1,1⟩:DT),1,281474976710657,1,(⟨#[97]⟩:ByteArray),([]:List DT)⟩:EV)=exA from rfl,show(⟨(⟨1,2⟩:DT),2,281474976710657,0,(⟨#[]⟩:ByteArray),([]:List DT)⟩:EV)=exB from rfl];simp only[zB,zA,hm1,hp1,hm2,hp2,decide_true,Bool.not_true,cond_false,hl,ht,show exC.kills.length=1 from rfl,show(xY [exC]).length=0 by decide,show(xx [exC]).length=1 by decide,ho,hp3,hall,hctx,h1,h2,List.length_nil,cond_true,show((1:Nat):Int)=1 from rfl,show((0:Nat):Int)=0 from rfl]
open E (OkE xX uc)
open F (XE yR ya Vz)
end Go.Ep.M.G
namespace Go.Ep.M.G
open Go Go.Proofs
theorem QL(c:List PT):yw c=pure 0:=by
 unfold yw;rw[show yT=pure [] from rfl,zB,zA,zr (r:=()) (by unfold wG;rfl),zA]
theorem ofNil_eq(i:Int):xd i=pure []:=by
 unfold xd;rw[show yg=pure [] from rfl,zB,zA,DelOf_eq [] i (Nat.zero_le _),zB,zA]
 rfl
theorem z5a : ZI [] true [] true []=pure true:=by
 unfold ZI;rw[show yu=pure [] from rfl,zB,zA,Rep.new.Ctx (Nat.zero_le _),zB,zA,C.Same_eq [] (C.yH []) C.ok_nil.sm (C.sm_norm C.ok_nil),zB,zA,C.Yb (C.xR [])];rw[decide_eq_true rfl,cond_true,show yv=pure [] from rfl,zB,zA,Rep.new.All (Nat.zero_le _),zB,zA,F.eAll_eq [] [] (Nat.zero_le _) (fun e he=>by cases he),zB,zA,zA]
 rfl
theorem z6a(e:EV):Wu [e]=pure [e]:=by
 unfold Wu;have h0:Yw [e] ([],0)=pure (.next ([e],1)):=by
  show cond (decide ((0:Int) < (([e]:List EV).length:Int))) ((idx [e] 0).bind fun x18=>(det (Yv [] x18)).bind fun(v20:List EV)=>pure (Step.next (v20,IntKind.i64.wrap (0+1)))) (pure (Step.done []))=_;rw[show decide ((0:Int) < (([e]:List EV).length:Int))=true from rfl,cond_true,show idx [e] 0=pure e from XM (by decide) rfl,zA,zIa [] e List.Pairwise.nil (fun x hx=>by cases hx) (Nat.zero_le _),zB,zA]
  rfl
 have h1:Yw [e] ([e],1)=pure (.done [e]):=by
  show cond (decide ((1:Int) < (([e]:List EV).length:Int))) ((idx [e] 1).bind fun x18=>(det (Yv [e] x18)).bind fun(v20:List EV)=>pure (Step.next (v20,IntKind.i64.wrap (1+1)))) (pure (Step.done [e]))=_;rw[show decide ((1:Int) < (([e]:List EV).length:Int))=false from rfl,cond_false]
 rw[yD h0,zr h1,zA]
theorem z7a(e:EV)(c:List PT)(h:e.kills.length<=300/\e.text.size<=200->E.OkE e)(hc:∀ p∈c,0<=p.dev):uU e c=pure true:=by
 unfold uU;rw[show VV [e] 1=pure (E.fewE [e] 1) from E.QB [e] 1 (by decide),zB,zA,QK,C.QB,zB,zA]
 cases hf:E.fewE [e] 1 with
 | false=>simp only[Bool.not_false,cond_true,zB,zA]
 | true=>
  simp only[Bool.not_true,cond_false,zA]
  cases hg:(decide (c.length<=30)&&c.all fun p=>decide (p.runs.length<=30)) with
  | false=>simp only[Bool.not_false,cond_true,zB,zA]
  | true=>
   obtain⟨_,h2⟩:=E.few_mem hf;have oe:=h (h2 e (List.mem_singleton.2 rfl));have hcc:=C.few_tot hg;have ho:=C.ok_few hc hcc;simp only[Bool.not_true,cond_false];rw[show xr e=pure (⟨⟨0,0⟩,0,0,0,⟨#[]⟩,[]⟩,1) from rfl,zB,zA,show wY c=pure () from rfl,zB,zA];rw[show(!decide ((1:Int)=1))=false from rfl,cond_false,show wb e=pure 1 from rfl,zB,zA,show(!decide ((1:Int)=1))=false from rfl,cond_false,QL,zB,zA,show(!decide ((0:Int)=0))=false from rfl,cond_false,
    show yu=pure [] from rfl,zB,zA,show(!decide ((([]:List PT).length:Int)=0))=false from rfl,cond_false,show yg=pure [] from rfl,zB,zA,show yT=pure [] from rfl,zB,zA,
    show yv=pure [] from rfl,zB,zA,ofNil_eq,zB,zA]
   rw[show(!decide (IntKind.i64.wrap (IntKind.i64.wrap (IntKind.i64.wrap (((([]:List EV).length:Nat):Int)+((([]:List EV).length:Nat):Int))+((([]:List EV).length:Nat):Int))+((([]:List EV).length:Nat):Int))=0))=false from by decide,cond_false,
    show vI=pure () from rfl,zB,zA,show um=pure ([],true,[],true,[]) from rfl,zB,zA,z5a,zB,zA,Bool.not_true,zA,cond_false]
   obtain⟨c1,xc1,s1,_,R1⟩:=Rep.new.see (Nat.zero_le _) (y:=[]) C.ok_nil (k:=0) (Nat.le_refl _) (Nat.le_refl _) (Nat.zero_le _);rw[s1,zB,zA];obtain⟨k,nl1,m1,nl2,m2,s2,_,R2,_⟩:=R1.prune (Nat.zero_le _) ho;rw[s2,zB,zA,z6a,zB,zA,show(0:Int)=((0:Nat):Int) from rfl,zJ (show([e]:List EV)[0]?=some e from rfl),zA,zE (by have:=(h2 e (List.mem_singleton.2 rfl)).1;simp;omega)];have hL:vU c ([]:List EV)=[]:=rfl;rw[hL] at R2;have hm1:m1=[]:=by have:=R2.live;exact List.Perm.eq_nil this
   have hm2:m2=[]:=by have:=R2.tomb;exact List.Perm.eq_nil this
   subst hm1;subst hm2;unfold Qk;rw[zE ⟨rfl,rfl⟩];show(det (zk e c1 nl1 [] nl2 [])).bind _=_
   cases hge:E.xX e with
   | true=>
    obtain⟨c3,xc3,a1,b1,a2,b2,s3,_,R3⟩:=R2.put (by decide) oe hge rfl;rw[s3,zB,zA,R3.All (by decide),zB,zA,show Un [] e=[e] from rfl,zE (fun x hx=>by rw[List.mem_singleton.1 hx];have:=oe.klen;omega),E.VG oe,zB,zA,hge];rw[show(!(true==decide ((0:Int)=0)))=false from rfl,cond_false,show(!decide ((0:Int)=0))=false from rfl,cond_false,E.rAll_eq [e] [e] (by simp) (fun x hx=>by rw[List.mem_singleton.1 hx];have:=oe.klen;omega),zB,zA,zA,decide_eq_true rfl,cond_true,QK,zB,zA]
   | false=>
    have s3:zk e c1 nl1 [] nl2 []=pure (1,c1,nl1,[],nl2,[]):=by
     unfold zk;rw[E.jv oe,zB,zA,hge];rfl
    rw[s3,zB,zA,R2.All (by decide),zB,zA,zE (fun x hx=>by cases hx),E.VG oe,zB,zA,hge];rw[show(!(false==decide ((1:Int)=0)))=false from rfl,cond_false,show(!decide ((1:Int)=0))=true from rfl,cond_true,zA,cond_true,QK,zB,zA]
end Go.Ep.M.G
namespace Go.Ep
open Go.RowKit Go.ChangeShapes Go.WideShapes
abbrev All : Nat->Prop:=fun _=>True
mutual
def UM{H:Type}:DataW H->Nat
 | .lit (.string bytes)=>bytes.length+1
 | .lit _=>1
 | .nil=>1
 | .ptr d=>UM d+1
 | .slice elems spare=>wh elems+wh spare+1
 | .agg parts=>wh parts+1
 | .iface _ d=>UM d+1
 | .map entries=>UD entries+1
 | .held _=>1
def wh{H:Type}:List (DataW H)->Nat
 | []=>0
 | d::r=>UM d+wh r
def UD{H:Type}:List (Lit×DataW H)->Nat
 | []=>0
 | x::r=>xaa x+UD r
def xaa{H:Type}:Lit×DataW H->Nat
 | (.string bytes,d)=>bytes.length+UM d+1
 | (_,d)=>UM d+1
end
theorem zMa{H:Type}(d:DataW H):1<=UM d:=by
 cases d with
 | lit l=>cases l <;> simp[UM]
 | nil=>simp[UM]
 | ptr d=>simp[UM]
 | slice elems spare=>simp[UM]
 | agg parts=>simp[UM]
 | iface t d=>simp[UM]
 | map entries=>simp[UM]
 | held h=>simp[UM]
theorem QM{H:Type}(l r:List (DataW H)):wh (l++r)=wh l+wh r:=by
 induction l with
 | nil=>simp[wh]
 | cons x l ih=>simp only[List.cons_append,wh,ih];omega
def szL{α:Type}(sz:α->Nat):List α->Nat
 | []=>0
 | a::r=>sz a+szL sz r
theorem szL_app{α:Type}(sz:α->Nat)(l r:List α):szL sz (l++r)=szL sz l+szL sz r:=by
 induction l with
 | nil=>simp[szL]
 | cons x l ih=>simp only[List.cons_append,szL,ih];omega
structure Opn(P:Program)(t:TypeId)(k:Nat){α:Type}(enc:α->List DV)(ok:α->Prop)(sz:α->Nat):Prop where
 cells:P.cellsOf t=k
 op:∀ {H:Type} {en:TypeId×Value->H} {w:World} {fuel:Nat} {cs:List Value} {x:DataW H×List MemPlace},DataW.trod en P w 0 (fun _=>true) true fuel t cs=some x ->
  ∃ a,ok a/\cs.length=k/\(enc a).length=k/\(∀ (j:Nat) (y:DV) (u:Value),(enc a)[j]?=some y->cs[j]?=some u->DRd w All y u)/\sz a<=UM x.1
section
variable{P:Program}{t:TypeId}
theorem Opn.map{k:Nat}{α β:Type}{enc:α->List DV}{enc':β->List DV}{ok:α->Prop}{ok':β->Prop}{sz:α->Nat}{sz':β->Nat}(h:Opn P t k enc ok sz)(f:α->β)(he:∀ a,ok a->enc' (f a)=enc a)(ho:∀ a,ok a->ok' (f a))(hz:∀ a,sz' (f a)<=sz a):Opn P t k enc' ok' sz':=
 ⟨h.cells,fun hx=>let ⟨a,h1,h2,h3,h4,h5⟩:=h.op hx;⟨f a,ho a h1,h2,by rw[he a h1];exact h3,by rw[he a h1];exact h4,Nat.le_trans (hz a) h5⟩⟩
theorem JC{w:World}{y:DV}{u:Value}(h:DRd w All y u):∀ (j:Nat) (y':DV) (u':Value),[y][j]?=some y'->[u][j]?=some u'->DRd w All y' u':=by
 intro j y' u' h1 h2
 cases j with
 | zero=>simp at h1 h2;subst h1;subst h2;exact h
 | succ j=>simp at h1
def okK(k:IntKind)(n:Int):Prop:=(Lit.int k n).wf=true
theorem Opn.int{k:IntKind}(hu:P.underlying t=some (.int k))(hc:P.cellsOf t=1):Opn P t 1 (eK k) (okK k) (fun _=>1):=by
 refine⟨hc,fun {H en w fuel cs x} h=>?_⟩
 cases fuel with
 | zero=>simp[DataW.trod] at h
 | succ fuel=>
  unfold DataW.trod at h;rw[hu] at h
  split at h <;> simp_all
  case h_2 n _=>
   obtain⟨⟨h1,h2⟩,_⟩:=h;subst h1;refine⟨n,h2,rfl,?_,zMa _⟩;intro j y u h1 h3;exact JC (.v _ rfl) j y u h1 h3
theorem okU64{n:Int}(h:okK .u64 n):0<=n/\n < 18446744073709551616:=by
 simp[okK,Lit.wf,IntKind.min,IntKind.max,IntKind.signed,IntKind.bits] at h;omega
theorem okU16{n:Int}(h:okK .u16 n):0<=n/\n < 65536:=by
 simp[okK,Lit.wf,IntKind.min,IntKind.max,IntKind.signed,IntKind.bits] at h;omega
theorem okU8{n:Int}(h:okK .u8 n):0<=n/\n < 256:=by
 simp[okK,Lit.wf,IntKind.min,IntKind.max,IntKind.signed,IntKind.bits] at h;omega
theorem Opn.str(hu:P.underlying t=some .string)(hc:P.cellsOf t=1):Opn P t 1 eS (fun s=>s.size<=9223372036854775807) (fun s=>s.size+1):=by
 refine⟨hc,fun {H en w fuel cs x} h=>?_⟩
 cases fuel with
 | zero=>simp[DataW.trod] at h
 | succ fuel=>
  unfold DataW.trod at h;rw[hu] at h
  split at h <;> simp_all
  case h_4=>
   rename_i s
   obtain⟨h1,h2⟩:=h;refine⟨s,by have:=h1;unfold maxLen at this;exact this,rfl,?_,?_⟩
   ·intro j y u h1 h2;exact JC (.v _ rfl) j y u h1 h2
   ·subst h2;have e:s.data.toList.length=s.size:=Array.length_toList;show s.size+1<=UM (DataW.lit (Lit.string s.data.toList));unfold UM;omega
theorem Opn.slice{e:TypeId}{k:Nat}{α:Type}{enc:α->List DV}{ok:α->Prop}{sz:α->Nat}(h:Opn P e k enc ok sz)(hu:P.underlying t=some (.slice e))(hc:P.cellsOf t=1)(hk:0 < k) :
  Opn P t 1 (eL enc) (fun l=>l.length<=9223372036854775807/\∀ a∈l,ok a) (fun l=>szL sz l+1):=by
 refine⟨hc,fun {H en w fuel cs x} hx=>?_⟩;rcases Deep.open_slice hu hx with⟨rfl,_⟩ | ⟨a,len,cap,m,n,D,Pl,rfl,_,hl,hm,hmm,hxD,hel⟩
 ·exact⟨[],⟨Nat.zero_le _,by simp⟩,rfl,rfl,JC (.nil none 0 (Nat.zero_le _) (fun _=>rfl)),zMa _⟩
 simp only[if_true] at hmm;subst hmm;rw[h.cells] at hel;have hcut:∀ n0,n0<=len->∃ l:List α,l.length=n0/\(∀ a∈l,ok a)/\szL sz l<=wh ((List.range n0).map D)/\∀ (i:Nat) (b:α),l[i]?=some b->(enc b).length=k/\∀ (j:Nat) (y:DV),(enc b)[j]?=some y->∃ u,w.cell? (a.add (i*k+j))=some u/\DRd w All y u:=by
  intro n0
  induction n0 with
  | zero=>intro _;exact⟨[],rfl,by simp,by simp[szL],by simp⟩
  | succ n0 ih=>
   intro hn;obtain⟨l,h1,h2,hz,h3⟩:=ih (by omega);obtain⟨cs',hc',ht'⟩:=hel n0 (by omega);obtain⟨b,hb1,hb2,hb3,hb4,hb5⟩:=h.op ht';obtain⟨_,_,hcell⟩:=World.cells?_some hc';refine⟨l++[b],by simp[h1],?_,by rw[szL_app,List.range_succ,List.map_append,QM];simp only[szL,List.map_cons,List.map_nil,wh];simp only at hb5;omega,?_⟩
   ·intro a ha;rcases List.mem_append.1 ha with ha | ha
    ·exact h2 a ha
    ·simp at ha;subst ha;exact hb1
   ·intro i b' hi;rw[List.getElem?_append] at hi
    split at hi
    ·exact h3 i b' hi
    ·rename_i hge
     have hi0:i=n0:=by
      have:i - l.length < 1:=by simpa using (List.getElem?_eq_some_iff.1 hi).1
      omega
     subst hi0;simp[h1] at hi;subst hi;refine⟨hb3,fun j y hy=>?_⟩;have hj:j < k:=by rw[<- hb3];exact(List.getElem?_eq_some_iff.1 hy).1
     have hcj:=hcell j hj;rw[Deep.add_add] at hcj;have hu':cs'[j]?=some (cs'[j]'(by omega)):=List.getElem?_eq_getElem (by omega);exact⟨_,by rw[hcj,hu'],hb4 j y _ hy hu'⟩
 obtain⟨l,h1,h2,hz,h3⟩:=hcut len (Nat.le_refl _);refine⟨l,⟨by unfold maxLen at hm;omega,h2⟩,rfl,rfl,JC ?_,?_⟩
 rotate_left
 ·rw[hxD];simp only[UM];omega
 by_cases h0:len=0
 ·have:l=[]:=List.eq_nil_of_length_eq_zero (by omega);subst this;subst h0;exact .nil _ _ hm (fun e=>by cases e)
 ·-- the first cell tells that the address is a plain one
  have hl0:0 < l.length:=by omega
  obtain⟨hk0,hc0⟩:=h3 0 _ (List.getElem?_eq_getElem hl0);obtain⟨u0,hu0,_⟩:=hc0 0 _ (List.getElem?_eq_getElem (by omega:0 < (enc l[0]).length));have hspot:a.spot=none:=by simpa[Addr.add] using World.cell?_spot hu0
  obtain⟨b,off,spot⟩:=a;simp only at hspot;subst hspot;have hb:b < w.heap.size:=by
   rw[Addr.add_lit] at hu0;unfold World.cell? at hu0
   cases hh:w.heap[b]? with
   | none=>simp[hh] at hu0
   | some o=>exact(Array.getElem?_eq_some_iff.1 hh).1
  have hlen:(l.map enc).length=len:=by simp[h1]
  rw[<- hlen];refine .sl _ b off m k (fun i j=>(w.cell? ⟨b,off+(i*k+j),none⟩).getD undef) (by omega) hm trivial hb ?_ ?_ ?_
  ·intro i cs hi;rw[List.getElem?_map] at hi
   cases hx:l[i]? with
   | none=>simp[hx] at hi
   | some y=>simp[hx] at hi;subst hi;exact(h3 i y hx).1
  ·intro i j hi hj;have hil:i < l.length:=by simpa using hi
   obtain⟨e1,e2⟩:=h3 i _ (List.getElem?_eq_getElem hil);obtain⟨u,hu,_⟩:=e2 j _ (List.getElem?_eq_getElem (by omega:j < (enc l[i]).length));rw[Addr.add_lit] at hu;simp[hu]
  ·intro i cs j x hi hx;rw[List.getElem?_map] at hi
   cases hy:l[i]? with
   | none=>simp[hy] at hi
   | some y=>
    simp[hy] at hi;subst hi;obtain⟨u,hu,hd⟩:=(h3 i y hy).2 j x hx;rw[Addr.add_lit] at hu;simpa[hu] using hd
structure OpnF(P:Program)(fs:List Field)(off k:Nat){α:Type}(enc:α->List DV)(ok:α->Prop)(sz:α->Nat):Prop where
 op:∀ {H:Type} {en:TypeId×Value->H} {w:World} {n:Nat} {cs:List Value} {xs:List (DataW H×List MemPlace)},xs.length=fs.length ->
  (∀ (i:Nat) (f:Field),fs[i]?=some f->DataW.trod en P w 0 (fun _=>true) true n f.type ((cs.drop f.offset).take (P.cellsOf f.type))=xs[i]?) ->
  ∃ a,ok a/\(enc a).length=k/\(∀ (j:Nat) (y:DV) (u:Value),(enc a)[j]?=some y->cs[off+j]?=some u->DRd w All y u)/\sz a<=wh (xs.map (·.1))
theorem OpnF.nil(off:Nat):OpnF P [] off 0 (fun _:Unit=>[]) (fun _=>True) (fun _=>0):=⟨fun _ _=>⟨(),trivial,rfl,by simp,Nat.zero_le _⟩⟩
theorem OpnF.cons{f:Field}{fs:List Field}{off k1 k2:Nat}{α β:Type}{e1:α->List DV}{o1:α->Prop}{e2:β->List DV}{o2:β->Prop}{z1:α->Nat}{z2:β->Nat}(h1:Opn P f.type k1 e1 o1 z1)(ho:f.offset=off)(h2:OpnF P fs (off+k1) k2 e2 o2 z2) :
  OpnF P (f::fs) off (k1+k2) (fun p:α×β=>e1 p.1++e2 p.2) (fun p=>o1 p.1/\o2 p.2) (fun p=>z1 p.1+z2 p.2):=by
 refine⟨fun {H en w n cs xs} hlen hx=>?_⟩
 cases xs with
 | nil=>simp at hlen
 | cons x xs=>
  have hx0:=hx 0 f rfl;simp only[List.getElem?_cons_zero] at hx0;obtain⟨a,ha1,ha2,ha3,ha4,ha5⟩:=h1.op hx0;obtain⟨b,hb1,hb2,hb3,hb4⟩:=h2.op (xs:=xs) (by simpa using hlen) (fun i f' hf=>by have:=hx (i+1) f' (by simpa using hf);simpa using this);refine⟨(a,b),⟨ha1,hb1⟩,by simp[ha3,hb2],?_,by simp only[List.map_cons,wh];omega⟩;intro j y u hy hu;simp only[List.getElem?_append] at hy
  by_cases hj:j < k1
  ·rw[if_pos (by omega)] at hy;refine ha4 j y u hy ?_;rw[List.getElem?_take,h1.cells,if_pos hj,List.getElem?_drop,ho];exact hu
  ·rw[if_neg (by omega),ha3] at hy;refine hb3 (j - k1) y u hy ?_;rw[<- hu]
   congr 1
   omega
theorem Opn.struct{fs:List Field}{k:Nat}{α:Type}{enc:α->List DV}{ok:α->Prop}{sz:α->Nat}(hu:P.underlying t=some (.struct fs.toArray))(hc:P.cellsOf t=k)(h:OpnF P fs 0 k enc ok sz):Opn P t k enc ok (fun a=>sz a+1):=by
 refine⟨hc,fun {H en w fuel cs x} hx=>?_⟩;obtain⟨xs,n,_,hxe,hlen,hxl,hf⟩:=DataW.trod_struct hu hx;obtain⟨a,h1,h2,h3,h4⟩:=h.op (cs:=cs) (xs:=xs) (by simpa using hxl) (fun i f hi=>hf i f (by simpa using hi));exact⟨a,h1,by rw[hlen,hc],h2,fun j y u hy hu=>h3 j y u hy (by simpa using hu),by rw[hxe];simp only[UM];omega⟩
theorem Opn.arg{H:Type}{en:TypeId×Value->H}{w:World}{v:Value}{d:DataW H}{ps:List MemPlace}{α:Type}{enc:α->DV}{ok:α->Prop}{sz:α->Nat}(h:Opn P t 1 (fun a=>[enc a]) ok sz)
  (hx:DataW.Trod en P w 0 (fun _=>true) true t v d ps) (h1:v.oneCell'=true):∃ a,ok a/\Rd w g0 All (.d (enc a)) v/\sz a<=UM d:=by
 obtain⟨fuel,hf⟩:=hx;obtain⟨a,ha,_,_,hr,hz⟩:=h.op hf;have hcs:v.cells.toList=[v]:=by cases v <;> first | rfl | (simp[Value.oneCell'] at h1;done)
 exact⟨a,ha,.d (hr 0 _ v rfl (by rw[hcs];rfl)),hz⟩
theorem Opn.argAgg{H:Type}{en:TypeId×Value->H}{w:World}{us:Array Value}{d:DataW H}{ps:List MemPlace}{k:Nat}{α:Type}{enc:α->List DV}{ok:α->Prop}{sz:α->Nat}(h:Opn P t k enc ok sz)
  (hx:DataW.Trod en P w 0 (fun _=>true) true t (.agg us) d ps):∃ a,ok a/\Rd w g0 All (.agg (List.map .d (enc a))) (.agg us)/\sz a<=UM d:=by
 obtain⟨fuel,hf⟩:=hx;obtain⟨a,ha,hl,hel,hr,hz⟩:=h.op hf;have hcs:(Value.agg us).cells.toList=us.toList:=rfl;rw[hcs] at hl hr;refine⟨a,ha,?_,hz⟩;have key:∀ (i:Nat) (y:DV) (u:Value),(enc a)[i]?=some y->us.toList[i]?=some u->DRd w All y u:=hr;have:=Rd.agg (w:=w) (g:=g0) (S:=All) ((enc a).map .d) us.toList (by simp[hel,hl]) (fun i p u hp hu=>by
  rw[List.getElem?_map] at hp
  cases hy:(enc a)[i]? with
  | none=>simp[hy] at hp
  | some y=>simp[hy] at hp;subst hp;exact .d (key i y u hy hu)) (fun u hu=>by
  obtain⟨i,hi,rfl⟩:=List.getElem_of_mem hu;have hi2:i < (enc a).length:=by omega
  exact(key i _ _ (List.getElem?_eq_getElem hi2) (List.getElem?_eq_getElem hi)).one)
 simpa using this
theorem Xt{H:Type}{en:TypeId×Value->H}(hl:laidOutB P=true){W W':World}(hb:Below W.heap.size W W'):∀ {ts:List TypeId} {vs:List Value} {ds:List (DataW H)} {ps:List MemPlace},
  (∀ t∈ts,P.readableRec t=true/\t < P.types.size)->DataW.TrodAll en P W 0 (fun _=>true) true ts vs ds ps->(∀ x∈ps,x.block < W.heap.size)->DataW.TrodAll en P W' 0 (fun b=>decide (b < W.heap.size)) true ts vs ds ps
 | [],[],[],ps,_,h,_=>h
 | t::ts,v::vs,d::ds,ps,hr,h,hlt=>by
  obtain⟨p,q,h1,h2,rfl⟩:=h;have hrt:=hr t (by simp);exact⟨p,q,Below.trod hl hrt.1 hrt.2 h1 hb (fun x hx=>hlt x (List.mem_append.2 (.inl hx))),Xt hl hb (fun t ht=>hr t (by simp[ht])) h2 (fun x hx=>hlt x (List.mem_append.2 (.inr hx))),rfl⟩
 | [],[],_::_,_,_,h,_=>h.elim
 | [],_::_,_,_,_,h,_=>h.elim
 | _::_,[],_,_,_,h,_=>h.elim
 | _::_,_::_,[],_,_,h,_=>h.elim
theorem UE{H:Type}{en:TypeId×Value->H}{w:World}{base:Nat}{sp:Nat->Bool}{hd:Bool}:∀ {ts:List TypeId} {vs:List Value} {ds:List (DataW H)} {ps:List MemPlace},DataW.TrodAll en P w base sp hd ts vs ds ps->ds.length=ts.length
 | [],[],[],_,_=>rfl
 | _::_,_::_,_::_,_,h=>by
  obtain⟨_,_,_,h2,_⟩:=h;simp[UE h2]
 | [],[],_::_,_,h=>h.elim
 | [],_::_,_,_,h=>h.elim
 | _::_,[],_,_,h=>h.elim
 | _::_,_::_,[],_,h=>h.elim
theorem xba{H:Type}{en:TypeId×Value->H}{fn:Func}{s:ChangeSpec}{tb:TypeId}{W W':World}{args:Array Value}{ds gs:List (DataW H)}{before:List MemPlace}(hl:laidOutB P=true)
  (hW:DataW.Whole en P fn.params.toList s.vars false W args.toList ds gs before) (hv:s.vars=[]) (hs:∀ ds:List (DataW H),ds.length=fn.params.size->(s.fn H ds).results=[.lit (.bool true)]/\(s.fn H ds).args=ds/\(s.fn H ds).vars=[])
  (hres:fn.resultTypes=#[tb]) (htb:P.underlying tb=some .bool) (hr:∀ t∈fn.params.toList,P.readableRec t=true/\t < P.types.size) (hb:Below W.heap.size W W') :
  s.post en P fn false true false false W args (.bool true) W':=by
 have hW':=hW;obtain⟨p,q,hA,hV,hpq,hfz,hnd⟩:=hW;rw[hv] at hV;obtain⟨rfl,rfl⟩:=trodVars_none hV;simp only[List.append_nil] at hpq;subst hpq;have hlt:∀ x∈before,x.block < W.heap.size:=fun x hx=>by simpa using hW'.lt x hx
 have hlen:ds.length=fn.params.size:=by simpa using UE hA
 obtain⟨e1,e2,e3⟩:=hs (ds++[]) (by simpa using hlen);refine⟨ds,[],before,[],before,[],hW',?_,?_,?_,hb.frame _,fun h=>by cases h⟩
 ·rw[e1,hres];exact trodAll_mk1 (shut_bool htb true)
 ·rw[e2,List.append_nil];exact Xt hl hb hr hA hlt
 ·rw[e3,hv];rfl
end
end Go.Ep
namespace Go.Ep
set_option linter.unusedVariables false
def DT.ok(x:DT):Prop:=okK .u16 x.dev/\okK .u64 x.n
def DT.sz(x:DT):Nat:=(1+(1+0))+1
def RN.ok(x:RN):Prop:=okK .u64 x.lo/\okK .u64 x.hi
def RN.sz(x:RN):Nat:=(1+(1+0))+1
def PT.ok(x:PT):Prop:=okK .u16 x.dev/\(x.runs.length<=9223372036854775807/\∀ a∈x.runs,RN.ok a)
def PT.sz(x:PT):Nat:=(1+((szL RN.sz x.runs+1)+0))+1
def EV.ok(x:EV):Prop:=DT.ok x.dot/\okK .u8 x.kind/\okK .u64 x.cid/\okK .u8 x.field/\ByteArray.size x.text<=9223372036854775807/\(x.kills.length<=9223372036854775807/\∀ a∈x.kills,DT.ok a)
def EV.sz(x:EV):Nat:=(DT.sz x.dot+(1+(1+(1+((ByteArray.size x.text+1)+((szL DT.sz x.kills+1)+0))))))+1
end Go.Ep
namespace Go.Proofs
open Go.Ep
set_option maxRecDepth 100000
theorem opnTDot : Opn Tryz.prog 25 2 DT.e DT.ok DT.sz:=(Opn.struct Tryz.underlying25 (by kernel_rfl) (OpnF.cons (Opn.int Tryz.underlying22 (by kernel_rfl)) rfl (OpnF.cons (Opn.int Tryz.underlying23 (by kernel_rfl)) rfl (OpnF.nil _)))).map (fun p=>⟨p.1,p.2.1⟩) (fun _ _=>rfl) (fun p h=>⟨h.1,h.2.1⟩) (fun _=>Nat.le_refl _)
theorem opnTRun : Opn Tryz.prog 80 2 RN.e RN.ok RN.sz:=(Opn.struct Tryz.underlying80 (by kernel_rfl) (OpnF.cons (Opn.int Tryz.underlying23 (by kernel_rfl)) rfl (OpnF.cons (Opn.int Tryz.underlying23 (by kernel_rfl)) rfl (OpnF.nil _)))).map (fun p=>⟨p.1,p.2.1⟩) (fun _ _=>rfl) (fun p h=>⟨h.1,h.2.1⟩) (fun _=>Nat.le_refl _)
theorem opnTPart : Opn Tryz.prog 56 2 PT.e PT.ok PT.sz:=(Opn.struct Tryz.underlying56 (by kernel_rfl) (OpnF.cons (Opn.int Tryz.underlying22 (by kernel_rfl)) rfl (OpnF.cons (opnTRun.slice Tryz.underlying54 (by kernel_rfl) (by decide)) rfl (OpnF.nil _)))).map (fun p=>⟨p.1,p.2.1⟩) (fun _ _=>rfl) (fun p h=>⟨h.1,h.2.1⟩) (fun _=>Nat.le_refl _)
theorem xca : Opn Tryz.prog 28 7 EV.e EV.ok EV.sz:=(Opn.struct Tryz.underlying28 (by kernel_rfl) (OpnF.cons opnTDot rfl (OpnF.cons (Opn.int Tryz.underlying5 (by kernel_rfl)) rfl (OpnF.cons (Opn.int Tryz.underlying23 (by kernel_rfl)) rfl (OpnF.cons (Opn.int Tryz.underlying5 (by kernel_rfl)) rfl (OpnF.cons (Opn.str Tryz.underlying9 (by kernel_rfl)) rfl (OpnF.cons (opnTDot.slice Tryz.underlying26 (by kernel_rfl) (by decide)) rfl (OpnF.nil _)))))))).map (fun p=>⟨p.1,p.2.1,p.2.2.1,p.2.2.2.1,p.2.2.2.2.1,p.2.2.2.2.2.1⟩) (fun _ _=>rfl) (fun p h=>⟨h.1,h.2.1,h.2.2.1,h.2.2.2.1,h.2.2.2.2.1,h.2.2.2.2.2.1⟩) (fun _=>Nat.le_refl _)
end Go.Proofs
