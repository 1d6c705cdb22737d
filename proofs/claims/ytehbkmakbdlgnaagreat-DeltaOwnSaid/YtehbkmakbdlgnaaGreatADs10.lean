/- Side texts. -/
import Derived.Test.YtehbkmakbdlgnaaGreatADs3
import Derived.Test.YtehbkmakbdlgnaaGreatADs4
import Derived.Test.YtehbkmakbdlgnaaGreatADs5
import Derived.Test.YtehbkmakbdlgnaaGreatADs6
import Derived.Test.YtehbkmakbdlgnaaGreatADs7
import Derived.Test.YtehbkmakbdlgnaaGreatADs8
import Derived.Test.YtehbkmakbdlgnaaGreatADs9
set_option linter.unusedVariables false
set_option linter.unusedSimpArgs false
namespace Go.Ep
def EV.F(x:EV)(f:DV->DV):List DV:=[.v (.int .u16 x.dot.dev),.v (.int .u64 x.dot.n),.v (.int .u8 x.kind),.v (.int .u64 x.cid),.v (.int .u8 x.field),.v (.string x.text),f (.sl (List.map DT.e x.kills))]
theorem flE(x:EV):FL (EV.F x):=.v _<|.v _<|.v _<|.v _<|.v _<|.v _<|.f _<|.nil
theorem wkN(N:Nat->Prop)(e:EV):Wk (.agg (List.map .d (EV.eN N e))) (.agg (List.map .d (EV.e e))):=WkL.agg (.cons (.refl _)<|.cons (.refl _)<|.cons (.refl _)<|.cons (.refl _)<|.cons (.refl _)<|.cons (.refl _)<|.cons (.nw _ _)<|.nil)
theorem unmEv(N:Nat->Prop)(l:List EV):Unm N (l.map (EV.eN N)) (l.map EV.e):=Unm.map (encN:=EV.eN N) (enc:=EV.e) (fun _=>rfl) (fun w S a j x x0 u h1 h2 h=>by
 match j,h1,h2 with
 | 0,h1,h2=>cases h1;cases h2;exact h.v0
 | 1,h1,h2=>cases h1;cases h2;exact h.v0
 | 2,h1,h2=>cases h1;cases h2;exact h.v0
 | 3,h1,h2=>cases h1;cases h2;exact h.v0
 | 4,h1,h2=>cases h1;cases h2;exact h.v0
 | 5,h1,h2=>cases h1;cases h2;exact h.v0
 | 6,h1,h2=>cases h1;cases h2;exact h.unN
 | j+7,h1,_=>cases h1) l
theorem WkD.nil(N:Nat->Prop):WkD (.sl []) (.nw N (.sl [])):=fun w S u h=>by
 cases h with
 | nil a cap hc hn=>exact .nw _ _ _ (.nil a cap hc hn)
 | sl _ b off cap k c hl hcap=>exact .nw _ _ _ (.nil _ cap hcap (fun e=>by cases e))
theorem zeroN(N:Nat->Prop):∀ (j:Nat) (y:DV),(EV.eN N ⟨⟨0,0⟩,0,0,0,⟨#[]⟩,[]⟩)[j]?=some y->∃ x,(EV.e ⟨⟨0,0⟩,0,0,0,⟨#[]⟩,[]⟩)[j]?=some x/\WkD x y:=fun j y h=>by
 match j,h with
 | 0,h=>cases h;exact⟨_,rfl,.refl _⟩
 | 1,h=>cases h;exact⟨_,rfl,.refl _⟩
 | 2,h=>cases h;exact⟨_,rfl,.refl _⟩
 | 3,h=>cases h;exact⟨_,rfl,.refl _⟩
 | 4,h=>cases h;exact⟨_,rfl,.refl _⟩
 | 5,h=>cases h;exact⟨_,rfl,.refl _⟩
 | 6,h=>cases h;exact⟨_,rfl,.nil N⟩
 | j+7,h=>cases h
end Go.Ep
namespace Go.Proofs
open Go.Ep Tryz
set_option maxHeartbeats 1000000
set_option maxRecDepth 100000
set_option linter.unusedVariables false
set_option linter.unusedSimpArgs false
theorem QQ(NN:Nat->Prop)(cv1:List PT)(row2:List EV)(r0:List EV)(h:(zM cv1 row2).wp (·=r0)):PObj prog 39 [.row 100 (row2.length),.clo 41 [(eL PT.e) cv1]] [(100,.row 57 7 (List.map (EV.eN NN) row2))] [] (.row 100 (r0.length)) (fun _:Unit=>[(100,.row 57 7 (List.map (EV.eN NN) r0))]):=by
 refine YV [0,1] func39 ntmps39 ?_;intro ctx hK pv;refine zC ?_;refine ws (aR 57 7 rfl) ?_;refine zF ?_;obtain⟨v3,hy4,h⟩:=zP h;refine ws (LR.callLend (PFun.weakA (yM hy4) (.cons (Wk.slm (F:=EV.F) flE NN row2) (.cons (.refl _) .nil))) rfl call89 rfl (.row rfl (by simp)<|.data rfl rfl<|.nil)) ?_;refine zl ?_;refine zE h (fun h=>?_) fun h=>?_
 ·refine zL ?_;refine yL [0,1,5,8,9,10,11,12,13] [100] ?_;refine zC ?_;refine wX ?_;cases h;exact EndsO.mk () (.inr rfl) (sO (tl:=[(4,_)]) (to:=[(100,_)]) rfl (.cons rfl VQ<|.nil) (.cons rfl rfl<|.nil)) (.cons (.tmp rfl)<|.nil) rfl rfl
 ·refine zl ?_;refine yN (zK h) 42 [] [] (fun⟨i6,v7⟩=>([(0,.row 100 (v7.length)),(5,zJ .i64 i6)],[(100,.row 57 7 (List.map (EV.eN NN) v7))])) (fun h=>?_) ?_
  ·refine g5 ?_;refine zc h 42 [1] [] (fun⟨i31,j32,v33⟩=>([(0,.row 100 (v33.length)),(5,zJ .i64 i31),(6,zJ .i64 j32)],[(100,.row 57 7 (List.map (EV.eN NN) v33))])) ?_;rintro N ⟨i31,j32,v33⟩ _ h;refine zl ?_;refine zE h (fun h=>?_) fun h=>?_
   ·refine zC ?_;refine yN (zK h) 42 [1,6] [] (fun⟨i35,v36⟩=>([(0,.row 100 (v36.length)),(5,zJ .i64 i35)],[(100,.row 57 7 (List.map (EV.eN NN) v36))])) (fun h=>?_) ?_
    ·refine zF ?_;obtain⟨x37,hy38,h⟩:=yF h;refine ws (LR.idxRowT (L:=v33) (y:=x37) underlying28 sizeOf57 rfl rfl rfl hy38)<|ws (LR.loadRpT (enc:=EV.eN NN) (L:=v33) (y:=x37) isAgg57 sizeOf57 rfl rfl hy38.2) ?_;refine zV ?_;refine ws (LR.weak (lA (ps:=(EV.eN NN x37).map .d) isAgg57 sizeOf57 rfl rfl rfl rfl) (wkN NN x37)) ?_;obtain⟨v39,hy40,h⟩:=zP h;refine ws (LR.callC (wj hy40) rfl call41 rfl rfl rfl rfl rfl) ?_;refine zC ?_;refine zE h (fun h=>?_) fun h=>?_
     ·refine zF ?_;obtain⟨x42,hy43,h⟩:=yF h;refine ws (LR.idxRowT (L:=v33) (y:=x42) underlying28 sizeOf57 rfl rfl rfl hy43)<|yL [0,1,5,6,32,33] [100] ?_;refine ws (LR.storeRpT (enc:=EV.eN NN) (L:=v33) (a:=x42) (b:=x37) sizeOf57 rfl rfl rfl rfl rfl hy43.2 rfl rfl) ?_;refine zV ?_;exact⟨((IntKind.i64.wrap (i31+1)),(List.set v33 (Int.toNat i31) x37)),(),h,zEa⟩
     ·refine g5 ?_;exact⟨(i31,v33),(),h,sP⟩
    ·rintro⟨i35,v36⟩ _ h;refine zF ?_;exact⟨(i35,(IntKind.i64.wrap (j32+1)),v36),(),h,sP⟩
   ·refine wZ ?_;exact⟨(i31,v33),(),h,sP⟩
  ·rintro⟨i6,v7⟩ _ h;refine zH ?_;obtain⟨hy44,h⟩:=zq h;refine ws (LR.pieceRowT (enc:=EV.eN NN) (L:=v7) underlying28 sizeOf57 rfl rfl rfl rfl hy44) ?_;obtain⟨hy45,h⟩:=zq h;refine ws (LR.clearPcN (enc:=EV.eN NN) (L:=v7) (z:=(⟨(⟨0,0⟩:DT),0,0,0,(⟨#[]⟩:ByteArray),([]:List DT)⟩:EV)) underlying28 rfl rfl zeroValue57 rfl rfl rfl rfl (zeroN NN) hy45 rfl) ?_;refine zF ?_;obtain⟨hy46,h⟩:=zq h;refine ws (LR.cutRowT (enc:=EV.eN NN) (L:=(List.take (Int.toNat i6) v7++List.replicate (v7.length - Int.toNat i6) (⟨(⟨0,0⟩:DT),0,0,0,(⟨#[]⟩:ByteArray),([]:List DT)⟩:EV)++List.drop ((Int.toNat i6)+(v7.length - Int.toNat i6)) v7)) [0,36,38,39] underlying28 sizeOf57 rfl uc rfl rfl hy46 rfl) ?_;refine zC ?_;refine wX ?_;cases h;exact EndsO.mk () (.inr rfl) (sO (tl:=[(4,_)]) (to:=[(100,_)]) rfl (.cons rfl VQ<|.nil) (.cons rfl rfl<|.nil)) (.cons (.tmp rfl)<|.nil) rfl rfl
theorem QR(NN N0 N9:Nat->Prop)(from1:List PT)(ctx_2:List PT)(nl3:Bool)(m4:List (DT×EV))(nl5:Bool)(m6:List (DT×EV))(r0:DL)(h:(xd from1 ctx_2 nl3 m4 nl5 m6).wp (·=r0)):PObjN prog 10 NN [.ref 100 0,zZ PT.e from1] [(100,.cells 73 [.d (.od N9 (.sl (List.map PT.e ctx_2))),.mp 101,.mp 102]),(101,.mapH nl3 [.u16,.u64] true (zO DT.k (EV.eO N0) m4)),(102,.mapH nl5 [.u16,.u64] true (zO DT.k (EV.eO N0) m6))] [100,101,102] (.agg (List.map .d (DL.F r0 (.nw NN)))) (fun _:Unit=>[(100,.cells 73 [.d (.od N9 (.sl (List.map PT.e ctx_2))),.mp 101,.mp 102]),(101,.mapH nl3 [.u16,.u64] true (zO DT.k (EV.eO N0) m4)),(102,.mapH nl5 [.u16,.u64] true (zO DT.k (EV.eO N0) m6))]):=by
 refine PObjN.introK (sl:=[(0,_),(1,_)]) func10 rfl ntmps10 rfl rfl rfl ?_;intro ctx hK hN pv hKp;refine zl ?_;obtain⟨y7,hy8,h⟩:=zP h;refine ws (LR.callObjSN [(100,100),(101,101),(102,102)] [] [100,101,102] [] [(100,.cells 73 [.d (.od N9 (.sl (List.map PT.e ctx_2))),.mp 101,.mp 102]),(101,.mapH nl3 [.u16,.u64] true (zO DT.k (EV.eO N0) m4)),(102,.mapH nl5 [.u16,.u64] true (zO DT.k (EV.eO N0) m6))] (qE NN N0 N9 ctx_2 nl3 m4 nl5 m6 y7 hy8) hN hK rfl call37 rfl (by first | rfl | (simp;done) | (simp[PV.nilD,PV.ren,rn] <;> omega)) (by repeat' first | constructor | (congr 1;first | (simp;done) | (simp;omega) | omega)) (.nil) (.cons rfl<|.cons rfl<|.cons rfl<|.nil) (by repeat' first | constructor | (congr 1;first | (simp;done) | (simp;omega) | omega)) rfl rfl rfl rfl rfl rfl) ?_;refine yL [0,3,4,7] [3,4,100,101,102,1100,1101,1102] ?_;refine zF ?_;refine ws (LR.weak (mV rfl) (Wk.nw _ _)) ?_;obtain⟨v9,hy10,h⟩:=zP h;refine ws (LR.callNwN (zfa hy10) (MonoP.n _) hN rfl call38 rfl rfl rfl rfl) ?_;refine zC ?_;obtain⟨y11,hy12,h⟩:=zP h;refine ws (LR.callObjSN [(100,100),(101,101),(102,102),(14,13)] [] [100,101,102,14] [(14,.row 57 7 (List.map (EV.eN NN) y11))] [(100,.cells 73 [.d (.od N9 (.sl (List.map PT.e ctx_2))),.mp 101,.mp 102]),(101,.mapH nl3 [.u16,.u64] true (zO DT.k (EV.eO N0) m4)),(102,.mapH nl5 [.u16,.u64] true (zO DT.k (EV.eO N0) m6))] (wZa NN N0 N9 ctx_2 nl3 m4 nl5 m6 y11 hy12) hN hK rfl call40 rfl (by first | rfl | (simp;done) | (simp[PV.nilD,PV.ren,rn] <;> omega)) (by repeat' first | constructor | (congr 1;first | (simp;done) | (simp;omega) | omega)) (.cons rfl<|.nil) (.cons rfl<|.cons rfl<|.cons rfl<|.nil) (by repeat' first | constructor | (congr 1;first | (simp;done) | (simp;omega) | omega)) rfl rfl rfl rfl rfl rfl) ?_;refine yL [3,4,10,11,13] [3,4,13,100,101,102,1100,1101,1102] ?_;refine PWl.sub (Sub.frzR (id:=3) ((eL PT.e) from1) [3] hK rfl rfl (.cons rfl<|.nil))<|ws (LR.makeClo (cs:=[(eL PT.e) from1]) rfl)<|yL [4,10,11,13,14] [4,13,100,101,102,1100,1101,1102] ?_;obtain⟨y13,hy14,h⟩:=zP h;refine xO [(100,13)] [13] [100] (QQ NN from1 y11 y13 hy14) call39<|yL [4,10,11,15] [4,13,100,101,102,1100,1101,1102] ?_;refine PWl.sub (Sub.frzNwN (n:=y13.length) [15] hKp hN (.cons rfl rfl rfl<|.cons rfl rfl rfl<|.cons rfl rfl rfl<|.nil) (unmEv NN y13) rfl (by simp) (fun j hj=>by simp at hj;subst hj;rfl)) ?_;refine ws (LR.build (ns:=[_,_,_]) jb rfl rfl rfl) ?_;refine zC ?_;refine wX ?_;cases h;exact EndsO.mkX (ex:=[(4,_)]) () (.inr rfl) (yYa [4] [100,101,102,1100,1101,1102,4]) (.cons (.agg isAgg38 sizeOf38 rfl rfl rfl)<|.nil) rfl rfl
theorem YJ(s1:List PT)(r0:List PT)(h:(xy s1).wp (·=r0)):PRow prog 92 [zZ PT.e s1] 62 2 (List.map PT.e r0):=by
 refine PRow.intro (sl:=[(0,_)]) func92 rfl ntmps92 rfl rfl ?_;intro ctx hK;refine zC ?_;refine ws (aR 62 2 rfl) ?_;refine zF ?_;replace h:=iNil h;refine PWl.eqlNilT (enc:=PT.e) (L:=s1) underlying24 rfl rfl (fun b2 hy3=>?_);replace h:=h b2 hy3;refine g5 ?_;refine zE h (fun h=>?_) fun h=>?_
 ·refine zC ?_;refine yL [0,3,4] [] ?_;refine ws (aR 62 2 rfl) ?_;refine g5 ?_;refine wX ?_;cases h;exact⟨.inr rfl,2,rfl,.inr ⟨2,_,rfl,uc,rfl⟩⟩
 ·refine zF ?_;obtain⟨hy5,h⟩:=zq h;refine ws (LR.appT (enc:=PT.e) (L:=([]:List PT)) (R:=s1) [5] XF underlying24 rfl uc rfl (Src.slT (enc:=PT.e) (R:=s1) rfl (fun _=>rfl)) (fun _=>rfl) hy5 rfl rfl) ?_;refine yL [0,3,4,6,7] [5] ?_;refine zC ?_;refine wX ?_;cases h;exact⟨.inr rfl,2,rfl,.inr ⟨5,_,rfl,(by simp),rfl⟩⟩
theorem Zb(s1:List RN)(r0:List RN)(h:(xe s1).wp (·=r0)):PRow prog 93 [zZ RN.e s1] 90 2 (List.map RN.e r0):=by
 refine PRow.intro (sl:=[(0,_)]) func93 rfl ntmps93 rfl rfl ?_;intro ctx hK;refine zC ?_;refine ws (aR 90 2 rfl) ?_;refine zF ?_;replace h:=iNil h;refine PWl.eqlNilT (enc:=RN.e) (L:=s1) underlying60 rfl rfl (fun b2 hy3=>?_);replace h:=h b2 hy3;refine g5 ?_;refine zE h (fun h=>?_) fun h=>?_
 ·refine zC ?_;refine yL [0,3,4] [] ?_;refine ws (aR 90 2 rfl) ?_;refine g5 ?_;refine wX ?_;cases h;exact⟨.inr rfl,2,rfl,.inr ⟨2,_,rfl,uc,rfl⟩⟩
 ·refine zF ?_;obtain⟨hy5,h⟩:=zq h;refine ws (LR.appT (enc:=RN.e) (L:=([]:List RN)) (R:=s1) [5] xw underlying60 rfl uc rfl (Src.slT (enc:=RN.e) (R:=s1) rfl (fun _=>rfl)) (fun _=>rfl) hy5 rfl rfl) ?_;refine yL [0,3,4,6,7] [5] ?_;refine zC ?_;refine wX ?_;cases h;exact⟨.inr rfl,2,rfl,.inr ⟨5,_,rfl,(by simp),rfl⟩⟩
theorem vta{a1 b2 r0}(h:(xba a1 b2).wp (·=r0)):PFun prog 100 [zZ RN.e a1,zZ RN.e b2] (.d (.v (.bool r0))):=by
 refine yB [0,1] func100 ntmps100 ?_;intro ctx hK;refine vn ?_;refine zE h (fun h=>?_) fun h=>?_
 ·refine zH ?_;refine wX ?_;cases h;exact xT
 ·refine zV ?_;refine vJ (zK h) 26 [] [] (fun _=>([],[])) (fun h=>?_) ?_
  ·refine g5 ?_;refine zc h 26 [0,1] [] (fun i17=>([(5,zJ .i64 i17)],[])) ?_;rintro N i17 _ h;refine zl ?_;refine zE h (fun h=>?_) fun h=>?_
   ·refine zF ?_;refine zy ?_;obtain⟨x19,hy20,h⟩:=yF h;refine xa hy20 ?_;refine yU ?_;obtain⟨x21,hy22,h⟩:=yF h;refine xa hy22 ?_;refine h5 ?_;refine qs (fun _ U W=>LR.neqAgg U U rfl rfl eq90) ?_;refine h5 ?_;refine zE h (fun h=>?_) fun h=>?_
    ·refine zH ?_;refine wX ?_;cases h;exact xT
    ·refine zV ?_;exact⟨(IntKind.i64.wrap (i17+1)),(),h,sP⟩
   ·refine wZ ?_;exact⟨(),(),h,sP⟩
  ·rintro _ _ h;refine zH ?_;refine wX ?_;cases h;exact xT
end Go.Proofs
namespace Go.Ep
open Go Go.RowKit
def parI(N:Nat->Prop)(i:Nat)(c:List PT):List (List DV):=c.mapIdx fun j x=>if j < i then PT.eN N x else PT.e x
theorem vua(N:Nat->Prop)(c:List PT):parI N 0 c=c.map PT.e:=by
 apply List.ext_getElem?;intro j;simp[parI]
theorem vva(N:Nat->Prop){i:Nat}{c:List PT}(h:c.length<=i):parI N i c=c.map (PT.eN N):=by
 apply List.ext_getElem?;intro j;simp only[parI,List.getElem?_mapIdx,List.getElem?_map]
 cases hx:c[j]? with
 | none=>rfl
 | some x=>have:=(List.getElem?_eq_some_iff.1 hx).1;simp[show j < i by omega]
theorem xja(N:Nat->Prop){i:Nat}{c:List PT}{x:PT}(h:c[i]?=some x):(parI N i c)[i]?=some (PT.e x):=by simp[parI,h]
theorem parI_set(N:Nat->Prop){i:Nat}{c:List PT}{x:PT}(h:c[i]?=some x):(parI N i c).set i (PT.eN N x)=parI N (i+1) c:=by
 apply List.ext_getElem?;intro j;rw[List.getElem?_set];have hi:=(List.getElem?_eq_some_iff.1 h).1;simp only[parI,List.getElem?_mapIdx]
 by_cases e:i=j
 ·subst e;have:=(List.getElem?_eq_some_iff.1 h).2;simp[hi,this]
 ·rw[if_neg e]
  cases hx:c[j]? with
  | none=>rfl
  | some y=>simp only[Option.map_some];congr 1;by_cases h1:j < i <;> simp[h1] <;> first | (intro;omega) | omega | (split <;> first | rfl | omega)
theorem flatRun(a:RN):∀ x∈RN.e a,∃ v,x=.v v:=by simp[RN.e]
theorem clP(l:List PT)(h:l.length<=1000000000000):(xy l).wp (·=l):=by
 unfold xy;refine⟨⟨false,fun h=>by cases h⟩,fun b hb=>?_⟩
 cases b
 ·exact⟨by simp;omega,by show[]++l=l;simp⟩
 ·exact(hb rfl).symm
theorem clR(l:List RN)(h:l.length<=1000000000000):(xe l).wp (·=l):=by
 unfold xe;refine⟨⟨false,fun h=>by cases h⟩,fun b hb=>?_⟩
 cases b
 ·exact⟨by simp;omega,by show[]++l=l;simp⟩
 ·exact(hb rfl).symm
theorem clD(l:List DT)(h:l.length<=1000000000000):(yA l).wp (·=l):=by
 unfold yA;refine⟨⟨false,fun h=>by cases h⟩,fun b hb=>?_⟩
 cases b
 ·exact⟨by simp;omega,by show[]++l=l;simp⟩
 ·exact(hb rfl).symm
theorem evC(e:EV)(h:e.kills.length<=1000000000000):(yq e).wp (·=e):=by
 unfold yq;exact⟨e.kills,clD e.kills h,rfl⟩
theorem monoDl(d:DL):MonoP fun N=>.agg (List.map .d (DL.F d (.nw N))):=.agg (.cons (.n _)<|.cons (.n _)<|.cons (.n _)<|.nil)
end Go.Ep
namespace Go.Proofs
open Go.Ep Tryz
set_option maxHeartbeats 1000000
set_option maxRecDepth 100000
set_option linter.unusedVariables false
set_option linter.unusedSimpArgs false
theorem XT(c:List PT)(hB:c.length<=1000000000000)(hR:∀ x∈c,x.runs.length<=1000000000000):PNew prog 43 [.d (.sl (List.map PT.e c))] (fun N=>.d (.nw N (.sl (List.map PT.e c)))):=by
 refine PNew.intro (sl:=[(0,_)]) func43 rfl ntmps43 rfl rfl ?_;intro ctx hK hK0;(iterate 2 refine g5 ?_);refine ws (aR 62 2 rfl) ?_;(iterate 4 refine g5 ?_);refine ws (LR.rowN (YJ c c (clP c hB)) rfl call92 rfl rfl rfl rfl) ?_;(iterate 9 refine g5 ?_);refine wJ (m:=M.loop (Wx c.length) 0) (N:=fun _=>True) (jl _ trivial 0) (fun(_:Unit) (_:Unit)=>⟨23,[(0,.row 5 c.length)],[(5,.row 62 2 (List.map (PT.eN (zT ctx)) c))]⟩) (fun h=>?_) ?_
 ·refine g5 ?_;refine wM (fun(i:Nat) (_:Unit)=>⟨23,[(0,.row 5 c.length),(7,.d (.v (.int .i64 (c.length:Int)))),(8,.d (.v (.int .i64 (i:Int))))],[(5,.row 62 2 (parI (zT ctx) i c))]⟩) () h (sO rfl (.c2 rfl rfl rfl rfl<|.cons rfl rfl<|.nil) (.cons rfl (by rw[vua])<|.nil)) ?_;rintro N i _ h;(iterate 5 refine g5 ?_);refine wC rfl (fun hc=>?_) (fun hc=>?_)
  ·replace h:N (i+1):=by have:=iT hc h;exact this
   have hi:i < c.length:=by have:=of_decide_eq_true hc;omega
   have hx:=List.getElem?_eq_getElem hi
   generalize c[i]=x at hx
   have hr:=hR x (List.mem_of_getElem? hx);(iterate 13 refine g5 ?_);refine ws (LR.idxRow underlying24 sizeOf62 rfl rfl rfl hi) ?_;refine g5 ?_;refine ws (LR.loadRp isAgg60 rfl rfl (xja _ hx) rfl)<|ws (LR.callNw ((Zb x.runs x.runs (clR _ hr)).new (flatL.map flatRun _)) (MonoP.d (MonoD.nw _)) rfl call93 rfl rfl rfl rfl)<|ws (LR.idxRow underlying24 sizeOf62 rfl rfl rfl hi) ?_;refine g5 ?_;refine ws (LR.storeRpB (ns:=PT.eN (zT ctx) x) sizeOf60 rfl rfl rfl rfl rfl (xja _ hx) rfl rfl) ?_;(iterate 5 refine g5 ?_);exact⟨i+1,(),h,sO rfl (.c2 rfl rfl rfl rfl<|.cons rfl (congrArg (fun z=>PV.d (.v (.int .i64 z))) (yea hi hB))<|.nil) (.cons rfl (congrArg (Ob.row 62 2) (parI_set _ hx))<|.nil)⟩
  ·have hi:c.length<=i:=by have:=of_decide_eq_false hc;omega
   refine wZ ?_;exact⟨(),(),trivial,sO rfl (.cons rfl rfl<|.nil) (.cons rfl (congrArg (Ob.row 62 2) (vva _ hi))<|.nil)⟩
 ·rintro _ _ _;(iterate 5 refine g5 ?_);refine PWc.sub (Sub.frzNw [2] hK0 (vra _ c) rfl (List.length_map _) (fun j hj=>by simp at hj;subst hj;rfl)) ?_;refine wX ?_;exact⟨.inr rfl,_,.cons (.tmp rfl rfl) .nil,rfl⟩
theorem WY(d1:DL)(hB:SmD d1):PNew prog 11 [.agg (List.map .d (DL.e d1))] (fun N=>.agg (List.map .d (DL.F d1 (.nw N)))):=by
 refine PNew.intro (sl:=[(0,_)]) func11 rfl ntmps11 rfl rfl ?_;intro ctx hK hK0;(iterate 6 refine g5 ?_);refine wz (tl:=[(1,_),(2,_)]) (to:=[(1,_),(2,_)]) ?_;refine PWc.regionE [⟨[6],[],[],[],[],[1],[],[]⟩,⟨[7],[],[1],[],[],[],[],[]⟩,{ws:=[8]},⟨[9],[],[],[],[],[1],[],[]⟩,⟨[10],[],[1],[],[],[],[],[]⟩,{ws:=[11]},{ws:=[12]},⟨[3],[3],[],[3],[],[3],[],[]⟩,⟨[],[3],[3],[],[],[],[30062],[]⟩] (by kernel_rfl) (by kernel_rfl) rfl ?_;(iterate 2 refine h5 ?_);refine kp (fun _ U W=>LR.callNw (XT d1.from_ hB.1.1 hB.1.2) (MonoP.n _) U call43 (xY (fun a b=>U a b) rfl rfl) rfl rfl rfl) ?_;(iterate 2 refine h5 ?_);refine kp (fun _ U W=>LR.callNw (XT d1.to_ hB.2.1.1 hB.2.1.2) (MonoP.n _) U call43 (xY (fun a b=>U a b) rfl rfl) rfl rfl rfl) ?_;refine kp (fun _ U W=>LR.buildR (ns:=[_,_,_]) jb rfl (w4a (fun a b=>U a b) rfl rfl) rfl) ?_;refine PQe.stepN (fun _ U W hf=>LR.allocZ (cs:=[_,_,_]) zeroValue38 rfl rfl rfl hf) rfl (.inl rfl) rfl ?_;refine ks (fun _ U W=>sB (ns:=[_,_,_]) sizeOf38 U U rfl rfl (W rfl rfl) rfl rfl)<|PQe.nil ?_;(iterate 2 refine g5 ?_);refine PWc.sub (Sub.ownNil (id:=3) (j:=2) (id':=30062) (e:=57) (k:=7) rfl rfl rfl rfl) ?_;(iterate 6 refine g5 ?_);refine wJ (m:=M.loop (Wx d1.events.length) 0) (N:=fun _=>True) (jl _ trivial 0) (fun(_:Unit) (_:Unit)=>⟨29,[(2,.ref 2 0),(3,.ref 3 0)],[(2,.cells 38 [.d (.sl (List.map PT.e ([]:List PT))),.d (.sl (List.map PT.e ([]:List PT))),.d (.sl (List.map EV.e ([]:List EV)))]),(3,.cells 38 [.d (.nw (zT ctx) (.sl (List.map PT.e d1.from_))),.d (.nw (zT ctx) (.sl (List.map PT.e d1.to_))),.row 30062 d1.events.length]),(30062,.row 57 7 (List.map (EV.eN (zT ctx)) d1.events))]⟩) (fun h=>?_) ?_
 ·refine g5 ?_;refine wM (fun(i:Nat) (_:Unit)=>⟨29,[(2,.ref 2 0),(3,.ref 3 0),(14,.d (.sl (List.map EV.e d1.events))),(15,.d (.v (.int .i64 (d1.events.length:Int)))),(16,.d (.v (.int .i64 (i:Int))))],[(2,.cells 38 [.d (.sl (List.map PT.e ([]:List PT))),.d (.sl (List.map PT.e ([]:List PT))),.d (.sl (List.map EV.e ([]:List EV)))]),(3,.cells 38 [.d (.nw (zT ctx) (.sl (List.map PT.e d1.from_))),.d (.nw (zT ctx) (.sl (List.map PT.e d1.to_))),.row 30062 (List.length (d1.events.take i))]),(30062,.row 57 7 (List.map (EV.eN (zT ctx)) (d1.events.take i)))]⟩) () h (sP) ?_;rintro N i _ h;(iterate 5 refine g5 ?_);refine wC rfl (fun hc=>?_) (fun hc=>?_)
  ·replace h:N (i+1):=by have:=iT hc h;exact this
   have hi:i < d1.events.length:=by have:=of_decide_eq_true hc;omega
   have hx:=List.getElem?_eq_getElem hi;have htk:d1.events.take i++[d1.events[i]]=d1.events.take (i+1):=(List.take_succ_eq_append_getElem hi).symm
   generalize d1.events[i]=x at hx htk
   have hr:=hB.2.2.2 x (List.mem_of_getElem? hx);(iterate 5 refine g5 ?_);refine ws (iX (enc:=EV.e) (L:=d1.events) (y:=x) underlying28 sizeOf57 rfl rfl ⟨by omega,hx⟩ (fun _=>rfl)) ?_;(iterate 4 refine g5 ?_);refine wz (tl:=[(2,_),(3,_),(5,_),(14,_),(15,_),(16,_)]) (to:=[(2,_),(3,_),(5,_),(30062,_)]) ?_;refine PWc.regionE [⟨[20],[],[],[],[],[3],[],[]⟩,⟨[21],[],[3],[],[],[30062],[],[]⟩,⟨[22],[],[5],[],[],[],[],[]⟩,{ws:=[23]},{ws:=[24]},⟨[21,25],[3,30062],[3,30062],[],[(30062,[21])],[30062],[],[3]⟩,⟨[26],[],[],[],[],[3],[],[]⟩,⟨[],[3],[3,30062],[],[],[],[30062],[]⟩] (by kernel_rfl) (by kernel_rfl) rfl ?_;(iterate 3 refine h5 ?_);refine kp (fun _ U W=>LR.callNw (uI x x (evC x hr)) (monoE _) U call44 (xY (fun a b=>U a b) rfl rfl) rfl rfl rfl) ?_;refine kp (fun _ U W=>LR.buildSliceD [.tmp 23] yh rfl rfl (.cons U rfl rfl<|.nil) (by decide) (by decide)) ?_;have hy28:((d1.events.take i).length+[x].length)*80<=140737488355328:=by have:=hB.2.2.1;simp;omega
   refine PQe.stepX [21] (fun _ U W ha=>LR.appC (enc:=EV.eN (zT ctx)) (L:=d1.events.take i) (R:=[x]) (j:=2) [21] yh underlying28 (U rfl rfl) rfl (W rfl rfl) (W rfl rfl) rfl rfl (fun _ h1 h2=>Src.slT (enc:=EV.eN (zT ctx)) (R:=[x]) (xia h1 h2 (U rfl rfl)) (fun _=>rfl)) (fun _=>rfl) hy28 rfl ha) rfl rfl (.inl rfl) rfl ?_;refine h5 ?_;refine ks (fun _ U W=>sB (ns:=[_,_,_]) sizeOf28 U U rfl rfl (W rfl rfl) rfl rfl)<|PQe.nil ?_;rw[htk];(iterate 4 refine g5 ?_);exact⟨i+1,(),h,sO rfl (.c4 rfl rfl rfl rfl rfl rfl rfl rfl<|.cons rfl (congrArg (fun z=>PV.d (.v (.int .i64 z))) (yea hi hB.2.2.1))<|.nil) (.c2 rfl rfl rfl rfl<|.cons rfl rfl<|.nil)⟩
  ·have hi:d1.events.length<=i:=by have:=of_decide_eq_false hc;omega
   rw[List.take_of_length_le hi];refine wZ ?_;exact⟨(),(),trivial,sP⟩
 ·rintro _ _ _;(iterate 2 refine g5 ?_);refine PWl.sub (Sub.frzCNw (id:=30062) (oid:=3) (j:=2) (n:=d1.events.length) [] hK0 (unmEv _ _) rfl (by simp) (fun j hj=>by cases hj) rfl rfl rfl) ?_;(iterate 3 refine g5 ?_);refine wX ?_;exact⟨.inr rfl,_,.cons (.agg isAgg38 sizeOf38 rfl rfl rfl rfl)<|.nil,rfl⟩
end Go.Proofs
namespace Go.Ep
open Go.RowKit
def CvP(w:World)(q p:PV):Prop:=∀ (g:zb) (S:Nat->Prop) (u:Value),Rd w g S q u->Rd w g S p u
theorem CvP.same{w:World}(p:PV):CvP w p p:=fun _ _ _ h=>h
theorem Wk.cv{q p:PV}(h:Wk q p)(w:World):CvP w q p:=fun g S u=>h w g S u
theorem CvP.old{w:World}{y:DV}(hp:Plain y):CvP w (.d y) (.d (.od (vD w.heap.size) y)):=fun _ _ _ h=>by
 cases h with | d h=>exact .d (xVa hp h)
def ltB(N:Nat->Prop)(B:Nat):Nat->Prop:=fun b=>N b/\b < B
theorem nwLt{w:World}{S N:Nat->Prop}{y:DV}{u:Value}(h:DRd w S (.nw N y) u):DRd w S (.nw (ltB N w.heap.size) y) u:=by
 cases h with
 | nw _ _ _ h0=>exact .nw _ _ _ (h0.bound.mono fun b hb=>⟨hb.1.1,hb.1.2,hb.2⟩)
inductive CvL (w:World):List PV->List PV->Prop
 | nil:CvL w [] []
 | cons {q p:PV} {l m:List PV} (h:CvP w q p) (t:CvL w l m):CvL w (q::l) (p::m)
theorem CvL.len{w:World}{l m:List PV}(h:CvL w l m):l.length=m.length:=by induction h with | nil=>rfl | cons _ _ ih=>simp[ih]
theorem CvL.get{w:World}{l m:List PV}(h:CvL w l m):∀ (i:Nat) (p:PV),m[i]?=some p->∃ q,l[i]?=some q/\CvP w q p:=by
 induction h with
 | nil=>intro i p hp;simp at hp
 | cons h t ih=>
  intro i p hp
  cases i with
  | zero=>cases hp;exact⟨_,rfl,h⟩
  | succ i=>exact ih i p hp
def CvO(w:World)(id:Nat)(q p:Ob):Prop:=∀ (g:zb) (S:Nat->Prop),ObRd w g S id q->ObRd w g S id p
theorem CvO.same{w:World}{id:Nat}(p:Ob):CvO w id p p:=fun _ _ h=>h
theorem CvO.cells{w:World}{id:Nat}{T:TypeId}{cs ds:List PV}(hw:CvL w cs ds):CvO w id (.cells T cs) (.cells T ds):=fun g S h=>by
 cases h with
 | cells _ _ blk n us h1 h2 h3 h4 h5=>
  refine .cells T ds blk n us h1 h2 (by rw[<- hw.len];exact h3) (fun i q u hq hu=>?_) h5;obtain⟨p,hp,hpq⟩:=hw.get i q hq;exact hpq g S u (h4 i p u hp hu)
theorem CvO.fl{w:World}{id:Nat}{T:TypeId}{F:(DV->DV)->List DV}(hF:FL F){f f':DV->DV}(hf:∀ (S:Nat->Prop) (y:DV) (u:Value),y∈F (fun x=>x)->DRd w S (f y) u->DRd w S (f' y) u):CvO w id (.cells T ((F f).map .d)) (.cells T ((F f').map .d)):=fun g S h=>by
 obtain⟨blk,n,hgi⟩:=cells_g h;exact hF.obj' h hgi hgi rfl fun y u hy hd=>hf S y u hy hd
theorem CvO.map{w:World}{id:Nat}{nl ag:Bool}{ks:List IntKind}{α κ:Type}{eK:κ->List Int}{F:α->(DV->DV)->List DV}(hF:∀ x,FL (F x)){m:List (κ×α)}{f f':DV->DV}(hf:∀ (x:α) (S:Nat->Prop) (y:DV) (u:Value),y∈F x (fun x=>x)->DRd w S (f y) u->DRd w S (f' y) u):CvO w id (.mapH nl ks ag (zO eK (fun x=>F x f) m)) (.mapH nl ks ag (zO eK (fun x=>F x f') m)):=fun g S h=>by
 have hlen:(zO eK (fun x=>F x f) m).length=(zO eK (fun x=>F x f') m).length:=by simp[Uj]
 have hget:∀ (i:Nat) (ns:List Int) (cs:List DV),(zO eK (fun x=>F x f') m)[i]?=some (ns,cs)->∃ x,m[i]?=some x/\ns=eK x.1/\cs=F x.2 f':=fun i ns cs h=>by
  unfold zO at h;rw[List.getElem?_map] at h
  cases hx:m[i]? with
  | none=>rw[hx] at h;cases h
  | some x=>rw[hx] at h;simp only[Option.map_some,Option.some.injEq,Prod.mk.injEq] at h;exact⟨x,rfl,h.1.symm,h.2.symm⟩
 generalize hM:zO eK (fun x=>F x f) m=M at h hlen
 cases h with
 | mapHNil _ _ hgn=>
  have:zO eK (fun x=>F x f') m=[]:=List.length_eq_zero_iff.1 hlen.symm;rw[this];exact .mapHNil _ _ hgn
 | mapH _ _ _ bs ck blk n es h1 h2 h3=>
  subst hM;refine .mapH ks ag _ bs ck blk n es h1 h2 (h3.conv hlen fun i ns cs hi=>?_);obtain⟨x,hx,e1,e2⟩:=hget i ns cs hi;subst e1 e2;refine⟨F x.2 f,by unfold zO;rw[List.getElem?_map,hx];rfl,(hF x.2).get.1 _ _,fun j x' u hj=>?_⟩;rcases(hF x.2).get.2 j with h | ⟨z,h⟩ | ⟨z,h⟩
  ·rw[h] at hj;cases hj
  ·rw[h] at hj;cases hj;exact⟨_,h _,fun h=>h⟩
  ·rw[h] at hj;cases hj;exact⟨_,h _,hf x.2 _ z u (List.mem_of_getElem? (h fun x=>x))⟩
inductive CvS (w:World) (s:PState):List (Nat×PV)->Prop
 | nil:CvS w s []
 | cons {i:Nat} {q p:PV} {l:List (Nat×PV)} (h1:s.at i=some q) (h2:CvP w q p) (t:CvS w s l):CvS w s ((i,p)::l)
theorem CvS.get{w:World}{s:PState}{l:List (Nat×PV)}(h:CvS w s l):∀ (i:Nat) (p:PV),xt l i=some p->∃ q,s.at i=some q/\CvP w q p:=by
 induction h with
 | nil=>intro i p hp;simp[xt] at hp
 | @cons j q p l h1 h2 t ih=>
  intro i p' hp;rw[yC] at hp
  split at hp
  ·rename_i e;subst e;cases hp;exact⟨q,h1,h2⟩
  ·exact ih i p' hp
inductive CvB (w:World) (s:PState):List (Nat×Ob)->Prop
 | nil:CvB w s []
 | cons {i:Nat} {q p:Ob} {l:List (Nat×Ob)} (h1:look s.objs i=some q) (h2:CvO w i q p) (t:CvB w s l):CvB w s ((i,p)::l)
theorem CvB.get{w:World}{s:PState}{l:List (Nat×Ob)}(h:CvB w s l):∀ (i:Nat) (p:Ob),look l i=some p->∃ q,look s.objs i=some q/\CvO w i q p:=by
 induction h with
 | nil=>intro i p hp;cases hp
 | @cons j q p l h1 h2 t ih=>
  intro i p' hp;simp only[look] at hp
  split at hp
  ·rename_i e;subst e;cases hp;exact⟨q,h1,h2⟩
  ·exact ih i p' hp
theorem Rel.conv{ctx:Ctx}{s t:PState}{a:Act}{w:World}(hn:t.n=s.n)(hs:CvS w s t.sl)(ho:CvB w s t.objs):Rel ctx s a w->Rel ctx t a w:=by
 rintro⟨g,hg⟩;have hF:∀ b,zk ctx g s.objs b->zk ctx g t.objs b:=fun b ⟨h1,h2⟩=>⟨h1,fun j o m hj hgj=>let ⟨q,hq,_⟩:=ho.get j o hj;h2 j q m hq hgj⟩
 have hst:yV w w (zk ctx g s.objs):=⟨Nat.le_refl _,fun _ _ _=>rfl⟩
 refine⟨g,hg.defers,hg.size.trans hn.symm,fun i p hp=>?_,fun id o hid=>?_,fun i j oi oj b n m hi hj hgi hgj=>?_,fun id o b n hid hgi=>?_,hg.os,hg.tape,hg.output,hg.grows,hg.keep⟩
 ·obtain⟨q,h1,h2⟩:=hs.get i p (xL hp);exact(h2 g _ _ (hg.slots i q h1)).keep hst (fun b hb _=>hF b hb) (fun _ _=>rfl)
 ·obtain⟨q,h1,h2⟩:=ho.get id o hid;exact(h2 g _ (hg.objs id q h1)).keep hst (fun b hb _=>hF b hb) (fun _ _ _=>rfl) rfl (fun _ _=>rfl)
 ·obtain⟨q1,h1,_⟩:=ho.get i oi hi;obtain⟨q2,h2,_⟩:=ho.get j oj hj;exact hg.inj i j q1 q2 b n m h1 h2 hgi hgj
 ·obtain⟨q,h1,_⟩:=ho.get id o hid;exact hg.own id q b n h1 hgi
theorem PWc.reMark{P:Program}{ctx:Ctx}{Q:PQ}{s:PState}{c:Code}(t:Nat->PState)(hK:∀ b,ctx.K b->ctx.S b)(hn:∀ B,(t B).n=s.n)(hs:∀ w:World,CvS w s (t w.heap.size).sl)(ho:∀ w:World,CvB w s (t w.heap.size).objs)
  (h:∀ ctx':Ctx,(∀ b,ctx'.K b->ctx'.S b)->ctx.w0.heap.size<=ctx'.w0.heap.size->(∀ b,b < ctx'.w0.heap.size->(ctx.w0.heap.size<=b\/ctx.K b)->ctx'.K b)->PWc P ctx' c Q (t ctx'.w0.heap.size)):PWc P ctx c Q s:=
 PWc.reCtx hK fun ctx' h1 h2 h3 a hr=>h ctx' h1 h2 h3 a _ (hr.conv (hn _) (hs _) (ho _))
theorem PWc.conv{P:Program}{ctx:Ctx}{Q:PQ}{s:PState}{c:Code}(t:PState)(hn:t.n=s.n)(hs:∀ w:World,CvS w s t.sl)(ho:∀ w:World,CvB w s t.objs)(h:PWc P ctx c Q t):PWc P ctx c Q s:=
 fun a w hr=>h a w (hr.conv hn (hs w) (ho w))
theorem remark1{ctx:Ctx}{s:PState}{a:Act}{w:World}{N:Nat->Prop}{F:(DV->DV)->List DV}{t:Nat}(hF:FL F)(hr:Rel ctx s a w)(ht:s.at t=some (.agg ((F (.nw N)).map .d))):Rel ctx (s.app ⟨[(t,.agg ((F (.nw (ltB N w.heap.size))).map .d))],[]⟩) a w:=by
 obtain⟨g,hg⟩:=hr;refine⟨g,hg.defers,hg.size,fun i p hp=>?_,hg.objs,hg.inj,hg.own,hg.os,hg.tape,hg.output,hg.grows,hg.keep⟩;have h1:=xL hp;have h2:=Zu hp
 change xt ((t,_)::s.sl) i=some p at h1
 rw[yC] at h1
 by_cases e:t=i
 ·subst e;rw[if_pos rfl] at h1
  cases h1
  exact hF.agg (hg.slots t _ ht) fun y u _ hd=>nwLt hd
 ·rw[if_neg e] at h1;exact hg.slots i p (Zn h2 h1)
inductive AvPL (M:Nat->Prop):List PV->Prop
 | nil:AvPL M []
 | cons {p:PV} {l:List PV} (h:AvP M p) (t:AvPL M l):AvPL M (p::l)
theorem AvPL.get{M:Nat->Prop}{l:List PV}(h:AvPL M l):∀ p∈l,AvP M p:=by
 induction h with
 | nil=>intro p hp;cases hp
 | cons h t ih=>
  intro p hp;rcases List.mem_cons.1 hp with rfl | hp
  ·exact h
  ·exact ih p hp
theorem AvO.list{M:Nat->Prop}{T:TypeId}{cs:List PV}(h:AvPL M cs):AvO M (.cells T cs):=.cells T cs h.get
theorem FL.av{M:Nat->Prop}{F:(DV->DV)->List DV}(hF:FL F){f:DV->DV}(h:∀ y,AvD M (f y)):∀ x∈F f,AvD M x:=by
 induction hF with
 | nil=>intro x hx;cases hx
 | v z t ih=>
  intro x hx;rcases List.mem_cons.1 hx with rfl | hx
  ·exact .v _
  ·exact ih x hx
 | f y t ih=>
  intro x hx;rcases List.mem_cons.1 hx with rfl | hx
  ·exact h y
  ·exact ih x hx
theorem AvO.fl{M:Nat->Prop}{T:TypeId}{F:(DV->DV)->List DV}(hF:FL F){f:DV->DV}(h:∀ y,AvD M (f y)):AvO M (.cells T ((F f).map .d)):=.cells T _ fun p hp=>by
 obtain⟨x,hx,rfl⟩:=List.mem_map.1 hp;exact .d (hF.av h x hx)
theorem AvO.fmap{M:Nat->Prop}{α κ:Type}{eK:κ->List Int}{F:α->(DV->DV)->List DV}(hF:∀ x,FL (F x)){nl ag:Bool}{ks:List IntKind}{m:List (κ×α)}{f:DV->DV}(h:∀ y,AvD M (f y)):AvO M (.mapH nl ks ag (zO eK (fun x=>F x f) m)):=.mapH _ _ _ _ fun e he x hx=>by
 unfold zO at he;obtain⟨y,_,rfl⟩:=List.mem_map.1 he;exact(hF y.2).av h x hx
inductive AvSl (M:Nat->Prop) (s:PState) (d:Nat):List (Nat×PV)->Prop
 | nil:AvSl M s d []
 | cons {i:Nat} {p:PV} {l:List (Nat×PV)} (h0:Nat.beq i d=false) (h1:s.at i=some p) (h2:AvP M p) (t:AvSl M s d l):AvSl M s d ((i,p)::l)
theorem AvSl.get{M:Nat->Prop}{s:PState}{d:Nat}{l:List (Nat×PV)}(h:AvSl M s d l):∀ i p,xt l i=some p->i≠d/\s.at i=some p/\AvP M p:=by
 induction h with
 | nil=>intro i p hp;simp[xt] at hp
 | @cons j p l h0 h1 h2 t ih=>
  intro i q hq;rw[yC] at hq
  split at hq
  ·rename_i e;subst e;cases hq;exact⟨fun e=>by rw[e] at h0;simp at h0,h1,h2⟩
  ·exact ih i q hq
inductive AvOb (M:Nat->Prop) (s:PState):List (Nat×Ob)->Prop
 | nil:AvOb M s []
 | cons {i:Nat} {o:Ob} {l:List (Nat×Ob)} (h1:look s.objs i=some o) (h2:AvO M o) (t:AvOb M s l):AvOb M s ((i,o)::l)
theorem AvOb.get{M:Nat->Prop}{s:PState}{l:List (Nat×Ob)}(h:AvOb M s l):∀ id o,look l id=some o->look s.objs id=some o/\AvO M o:=by
 induction h with
 | nil=>intro i p hp;cases hp
 | @cons j o l h1 h2 t ih=>
  intro i q hq;simp only[look] at hq
  split at hq
  ·rename_i e;subst e;cases hq;exact⟨h1,h2⟩
  ·exact ih i q hq
theorem spConv{F:(DV->DV)->List DV}(hF:FL F)(N:Nat->Prop):∀ (w:World) (g:zb) (S:Nat->Prop) (i:Nat) (p q:PV) (v:Value),[PV.agg ((F (.sp qq)).map .d)][i]?=some p->[PV.agg ((F (.nw N)).map .d)][i]?=some q->Rd w g S q v->Rd w g0 (fun b=>S b/\N b) p v:=by
 intro w g S i p q v hp hq hr
 cases i with
 | succ i=>simp at hp
 | zero=>
  cases hp
  cases hq
  refine hF.agg hr fun y u _ hd=>?_
  cases hd with
  | nw _ _ _ h0=>exact .sp _ y y u (.eq y) (h0.mono fun b hb=>⟨hb,trivial⟩)
theorem CvP.nilOd{w:World}(N:Nat->Prop):CvP w (.d (.sl [])) (.d (.od N (.sl []))):=fun g S u h=>by
 cases h with
 | d h=>
  cases h with
  | nil a cap hc hn=>exact .d (.od _ _ _ (.nil a cap hc hn))
  | sl _ b off cap k c hl hcap=>exact .d (.od _ _ _ (.nil _ cap hcap (fun e=>by cases e)))
theorem FL.wk{F:(DV->DV)->List DV}(hF:FL F){f f':DV->DV}(hf:∀ y,WkD (f y) (f' y)):Wk (.agg ((F f).map .d)) (.agg ((F f').map .d)):=fun w g S u h=>hF.agg h fun y v _ hd=>hf y w S v hd
theorem xka{s0 s:PState}{es:List Ef}{E E':Nat->Bool}(h:InvE s0 es E s){t:Nat}{p:PV}(hE:∀ j e,es[j]?=some e->(xt e.U t).isSome=true->E j=E' j)(hp:jU (es.map fun e=>xt e.U t) E' 0 (xt s0.sl t)=some p)(hn:Nat.blt t s0.n=true):s.at t=some p:=by
 refine Zn (by rw[h.n];simpa[Nat.blt_eq] using hn) ?_;rw[h.sl,<- hp];refine wY fun j x hj=>?_
 rw[List.getElem?_map] at hj
 cases he:es[j]? with
 | none=>rw[he] at hj;cases hj
 | some e=>
  rw[he] at hj;simp only[Option.map_some,Option.some.injEq] at hj;rw[Nat.zero_add];exact hE j e he (by rw[hj];rfl)
theorem waa{P:Program}{ops:Array Oper}{Qx:Exit->Act->World->Prop}{i:Nat}{o:Oper}{K:Act->World->Prop}{a:Act}{w:World}(h:ops[i]?=some o)(hg:o.guard=none)(hk:o.wp P a w K Qx):wpOp P ops Qx i K a w:=by
 unfold wpOp;rw[h];simp only[Region.wanted,hg];exact .inl hk
end Go.Ep
namespace Go.Ep
open Go.RowKit
def accF(acc:List (List Nat))(o:Oper):List (List Nat):=acc++[o.after.toList.foldl (fun l e=>bif Region.binds .any e&&!inL l e.on then e.on::(((acc[e.on]?).getD []).filter (fun x=>!inL l x)++l) else l) []]
def predsF(ops:List Oper):List (List Nat):=ops.foldl accF []
def drawF(ops:Array Oper)(fs:List Ft):Bool:=
 let pr:=predsF ops.toList
 Nat.beq fs.length ops.size &&
 ((List.range ops.size).all fun j=>match ops[j]?,fs[j]? with
  | some o,some g=>o.after.toList.all (fun e=>Nat.blt e.on j||!Region.binds .any e)&&g.fr.all (fun id=>!inL g.ro id)&&(List.range j).all fun i=>match fs[i]? with
    | some f=>!UC f g&&(!wb f g (yb ops i) (yb ops j)||inL ((pr[j]?).getD []) i)
    | none=>false
  | _,_=>false)
def SubL(a b:List (List Nat)):Prop:=a.length=b.length/\∀ (j:Nat) (x:Nat),x∈(a[j]?).getD []->x∈(b[j]?).getD []
theorem zma{a b:List (List Nat)}(h:SubL a b):∀ (es:List Edge) (l m:List Nat),(∀ x∈l,x∈m) ->
  ∀ x∈es.foldl (fun l e=>bif Region.binds .any e&&!inL l e.on then e.on::(((a[e.on]?).getD []).filter (fun x=>!inL l x)++l) else l) l,x∈es.foldl (fun l e=>bif Region.binds .any e then e.on::((b[e.on]?).getD []++l) else l) m
 | [],l,m,hl=>hl
 | e::r,l,m,hl=>by
  rw[List.foldl_cons,List.foldl_cons];refine zma h r _ _ fun x hx=>?_
  cases hb:Region.binds .any e with
  | false=>rw[hb,Bool.false_and,cond_false] at hx;rw[cond_false];exact hl x hx
  | true=>
   rw[hb,Bool.true_and] at hx;rw[cond_true]
   cases hi:inL l e.on with
   | true=>rw[hi,Bool.not_true,cond_false] at hx;exact List.mem_cons_of_mem _ (List.mem_append_right _ (hl x hx))
   | false=>
    rw[hi,Bool.not_false,cond_true] at hx;rcases List.mem_cons.1 hx with rfl | hx
    ·exact List.mem_cons_self
    ·rcases List.mem_append.1 hx with hx | hx
     ·exact List.mem_cons_of_mem _ (List.mem_append_left _ (h.2 _ x (List.mem_filter.1 hx).1))
     ·exact List.mem_cons_of_mem _ (List.mem_append_right _ (hl x hx))
theorem accF_sub{a b:List (List Nat)}(h:SubL a b)(o:Oper):SubL (accF a o) (zDa b o):=by
 refine⟨by simp[accF,zDa,h.1],fun j x hx=>?_⟩;unfold accF at hx;unfold zDa
 by_cases hj:j < a.length
 ·rw[List.getElem?_append_left hj] at hx;rw[List.getElem?_append_left (by rw[<- h.1];exact hj)];exact h.2 j x hx
 ·rw[List.getElem?_append_right (by omega)] at hx;rw[List.getElem?_append_right (by rw[<- h.1];omega),<- h.1]
  cases hk:j - a.length with
  | zero=>
   rw[hk] at hx;exact zma h _ [] [] (fun _ h=>h) x hx
  | succ k=>rw[hk] at hx;cases hx
theorem zna : ∀ (l:List Oper) (a b:List (List Nat)),SubL a b->SubL (l.foldl accF a) (l.foldl zDa b)
 | [],_,_,h=>h
 | o::r,_,_,h=>zna r _ _ (accF_sub h o)
theorem wba(l:List Oper):SubL (predsF l) (uy l):=zna l [] [] ⟨rfl,fun _ _ h=>h⟩
theorem drawF_E{ops:Array Oper}{fs:List Ft}(h:drawF ops fs=true):wIa ops fs=true:=by
 unfold drawF at h;unfold wIa;simp only[Bool.and_eq_true] at h ⊢;refine⟨h.1,?_⟩;rw[List.all_eq_true];intro j hj;have h2:=List.all_eq_true.1 h.2 j hj
 revert h2
 cases ops[j]? with
 | none=>exact id
 | some o=>
  cases fs[j]? with
  | none=>exact id
  | some g=>
   simp only[Bool.and_eq_true,List.all_eq_true];rintro⟨h1,h3⟩;refine⟨h1,fun i hi=>?_⟩;have h4:=h3 i hi
   revert h4
   cases fs[i]? with
   | none=>exact id
   | some f=>
    simp only[Bool.and_eq_true,Bool.or_eq_true];rintro⟨q1,q2⟩;exact⟨q1,q2.imp_right fun q=>zS.2 ((wba ops.toList).2 j i (zS.1 q))⟩
theorem PWc.regionF{P:Program}{ctx:Ctx}{Q:PQ}{s:PState}{id:Nat}{l:List Oper}(fs:List Ft)(hm:P.follows .mixedOrders=true)(hB:drawF l.toArray fs=true)(hS:jV s fs=true)(h:PQe P ctx l.toArray (Q .normal) l fs s):PWc P ctx (.region id l.toArray true) Q s:=PWc.regionE fs hm (drawF_E hB) hS h
end Go.Ep
namespace Go.Proofs
open Go.Ep Tryz
set_option maxHeartbeats 1000000
set_option maxRecDepth 100000
set_option linter.unusedVariables false
set_option linter.unusedSimpArgs false
theorem ZN{ctx_1 nl2 m3 nl4 m5 r0}(h:(xh ctx_1 nl2 m3 nl4 m5).wp (·=r0)):PObj prog 23 [.ref 100 0] [(100,.cells 73 [zZ PT.e ctx_1,.mp 101,.mp 102]),(101,.mapH nl2 [.u16,.u64] true (zO DT.k EV.e m3)),(102,.mapH nl4 [.u16,.u64] true (zO DT.k EV.e m5))] [100,101,102] (.row 10 (r0.length)) (fun _:Unit=>[(100,.cells 73 [zZ PT.e ctx_1,.mp 101,.mp 102]),(101,.mapH nl2 [.u16,.u64] true (zO DT.k EV.e m3)),(102,.mapH nl4 [.u16,.u64] true (zO DT.k EV.e m5)),(10,.row 57 7 (List.map EV.e r0))]):=by
 refine YV [0] func23 ntmps23 ?_;intro ctx hK pv;refine zC ?_;refine ws (aR 57 7 rfl) ?_;refine zm ?_;refine PWc.condF rfl ?_;refine zm ?_;refine ws (LR.buildSliceP [.tmp 8] qr rfl rfl rfl rfl (by decide) rfl) ?_;obtain⟨y6,hy7,h⟩:=zP h;refine coA6 [(100,9),(101,101),(3,10)] [] [100,101,3] [3] [100,101] (XS hy7) call59 ?_;refine yL [2,10] [2,10,100,101,102,1100,1101,1102] ?_;refine yL [10] [10,100,101,102,1100,1101,1102] ?_;refine zC ?_;refine wX ?_;cases h;exact EndsO.mk () (.inr rfl) (sO (tl:=[(2,_)]) (to:=[(100,_),(101,_),(102,_),(10,_),(1100,_),(1101,_),(1102,_)]) rfl (.cons rfl VQ<|.nil) (.c4 rfl rfl rfl rfl rfl rfl rfl rfl<|.c2 rfl rfl rfl rfl<|.cons rfl rfl<|.nil)) (.cons (.tmp rfl)<|.nil) rfl rfl
theorem WZ{ctx_1 ctx_2 nl3 m4 nl5 m6 nl7 m8 nl9 m10 r0}(h:(vy ctx_1 ctx_2 nl3 m4 nl5 m6 nl7 m8 nl9 m10).wp (·=r0)):PObj prog 20 [.ref 100 0,.ref 101 0] [(100,.cells 73 [zZ PT.e ctx_1,.mp 102,.mp 103]),(101,.cells 73 [zZ PT.e ctx_2,.mp 104,.mp 105]),(102,.mapH nl3 [.u16,.u64] true (zO DT.k EV.e m4)),(103,.mapH nl5 [.u16,.u64] true (zO DT.k EV.e m6)),(104,.mapH nl7 [.u16,.u64] true (zO DT.k EV.e m8)),(105,.mapH nl9 [.u16,.u64] true (zO DT.k EV.e m10))] [100,101,102,103,104,105] (.d (.v (.bool r0))) (fun _:Unit=>[(100,.cells 73 [zZ PT.e ctx_1,.mp 102,.mp 103]),(101,.cells 73 [zZ PT.e ctx_2,.mp 104,.mp 105]),(102,.mapH nl3 [.u16,.u64] true (zO DT.k EV.e m4)),(103,.mapH nl5 [.u16,.u64] true (zO DT.k EV.e m6)),(104,.mapH nl7 [.u16,.u64] true (zO DT.k EV.e m8)),(105,.mapH nl9 [.u16,.u64] true (zO DT.k EV.e m10))]):=by
 refine YV [0,1] func20 ntmps20 ?_;intro ctx hK pv;refine zF ?_;refine yN (zK h) 17 [] [100,101,102,103,104,105,1100,1101,1102,1103,1104,1105] (fun v11=>([(4,.d (.v (.bool v11)))],[])) (fun h=>?_) ?_
 ·refine zC ?_;obtain⟨y12,hy13,h⟩:=zP h;refine coA6 [(100,100),(101,102),(102,103)] [] [100,101,102] [] [100,101,102] (xS hy13) call37 ?_;refine yL [0,1,4,6] [100,101,102,103,104,105,1100,1101,1102,1103,1104,1105] ?_;refine g5 ?_;obtain⟨y14,hy15,h⟩:=zP h;refine coA6 [(100,101),(101,104),(102,105)] [] [100,101,102] [] [100,101,102] (xS hy15) call37 ?_;refine yL [0,1,4,6,8] [100,101,102,103,104,105,1100,1101,1102,1103,1104,1105] ?_;obtain⟨v16,hy17,h⟩:=zP h;refine xN (yia hy17) call56 ?_;refine g5 ?_;refine yH 10 h (fun h=>?_) fun h=>?_
  ·refine g5 ?_;obtain⟨y19,hy20,h⟩:=zP h;refine wt (LR.callObjS [(100,100),(101,102),(102,103),(14,12)] [] [100,101,102,14] [(14,.row 57 7 (List.map EV.e y19))] [(100,.cells 73 [zZ PT.e ctx_1,.mp 101,.mp 102]),(101,.mapH nl3 [.u16,.u64] true (zO DT.k EV.e m4)),(102,.mapH nl5 [.u16,.u64] true (zO DT.k EV.e m6))] (xp hy20) hK rfl call40 rfl (by first | rfl | (simp;done) | (simp[PV.nilD,PV.ren,rn] <;> omega)) (by repeat' first | constructor | (congr 1;first | (simp;done) | (simp;omega) | omega)) (.cons rfl<|.nil) (.cons rfl<|.cons rfl<|.cons rfl<|.nil) (by repeat' first | constructor | (congr 1;first | (simp;done) | (simp;omega) | omega)) rfl rfl rfl rfl rfl rfl) ?_;refine yL [1,4,10,12] [12,100,101,102,103,104,105,1100,1101,1102,1103,1104,1105] ?_;refine g5 ?_;obtain⟨y21,hy22,h⟩:=zP h;refine wt (LR.callObjS [(100,101),(101,104),(102,105),(14,14)] [] [100,101,102,14] [(14,.row 57 7 (List.map EV.e y21))] [(100,.cells 73 [zZ PT.e ctx_2,.mp 101,.mp 102]),(101,.mapH nl7 [.u16,.u64] true (zO DT.k EV.e m8)),(102,.mapH nl9 [.u16,.u64] true (zO DT.k EV.e m10))] (xp hy22) hK rfl call40 rfl (by first | rfl | (simp;done) | (simp[PV.nilD,PV.ren,rn] <;> omega)) (by repeat' first | constructor | (congr 1;first | (simp;done) | (simp;omega) | omega)) (.cons rfl<|.nil) (.cons rfl<|.cons rfl<|.cons rfl<|.nil) (by repeat' first | constructor | (congr 1;first | (simp;done) | (simp;omega) | omega)) rfl rfl rfl rfl rfl rfl) ?_;refine yL [4,10,12,14] [12,14,100,101,102,103,104,105,1100,1101,1102,1103,1104,1105] ?_;obtain⟨v23,hy24,h⟩:=zP h;refine PWl.frz [12] hK (.cons rfl<|.nil) rfl (by simp) ?_;refine PWl.frz [14] hK (.cons rfl<|.nil) rfl (by simp) ?_;refine wt (cN (zka hy24) rfl call57 rfl rfl rfl rfl) ?_;refine zL ?_;exact⟨v23,(),h,sP⟩
  ·refine zl ?_;exact⟨false,(),h,sP⟩
 ·rintro v11 _ h;refine wX ?_;cases h;exact Zp [4] [100,101,102,103,104,105,1100,1101,1102,1103,1104,1105]
theorem Ue  (r0:Bool) (h:(XL ).wp (·=r0)):PFun prog 6 [] (.d (.v (.bool r0))):=by
 refine yB [] func6 ntmps6 ?_;intro ctx hK;refine zV ?_;obtain⟨y1,hy2,h⟩:=zP h;refine xO [(2,7),(30041,20141),(30042,20142)] [] [2,30041,30042] (Yi y1 hy2) call12 ?_;obtain⟨y3,hy4,h⟩:=zP h;refine xO [(2,8),(30041,20161),(30042,20162)] [] [2,30041,30042] (Yi y3 hy4) call12<|yL [7,8] [7,8,20141,20142,20161,20162] ?_;refine zV ?_;refine ws (LR.build (ns:=[_,_]) Wf rfl rfl rfl)<|ws (LR.build (ns:=[_,_,_,_,_,_,_]) qu rfl rfl rfl) ?_;obtain⟨y5,hy6,h⟩:=zP h;refine xO [(100,7),(101,20141),(102,20142)] [] [100,101,102] (Zj hy6) call22<|yL [1,2,12] [7,8,20141,20142,20161,20162] ?_;refine zF ?_;obtain⟨y7,hy8,h⟩:=zP h;refine coA6 [(100,7),(101,20141),(102,20142)] [] [100,101,102] [] [100,101,102] (Ug hy8) call10 ?_;refine yL [1,2,3,14] [7,8,20141,20142,20161,20162] ?_;refine zm ?_;obtain⟨y9,hy10,h⟩:=zP h;refine xO [(100,8),(101,20161),(102,20162)] [] [100,101,102] (Yv hy10) call14<|yL [1,2,3,4,17] [4,7,8,20141,20142,20161,20162] ?_;refine zV ?_;obtain⟨y11,hy12,h⟩:=zP h;refine xO [(100,8),(101,20161),(102,20162)] [] [100,101,102] (Yv hy12) call14<|yL [1,2,3,4,5,20] [4,7,8,20141,20142,20161,20162] ?_;refine zL ?_;refine yN (zK h) 48 [] [] (fun v13=>([(0,.d (.v (.bool v13)))],[])) (fun h=>?_) ?_
 ·refine zH ?_;refine yH 23 h (fun h=>?_) fun h=>?_
  ·refine zH ?_;refine yH 27 h (fun h=>?_) fun h=>?_
   ·refine zH ?_;refine yH 31 h (fun h=>?_) fun h=>?_
    ·refine yL [1,2,4,31] [4,7,8,20141,20142,20161,20162] ?_;refine zV ?_;refine yH 37 h (fun h=>?_) fun h=>?_
     ·refine g5 ?_;obtain⟨y18,hy19,h⟩:=zP h;refine wt (LR.callObjS [(100,8),(101,20161),(102,20162),(10,39)] [] [100,101,102,10] [(10,.row 57 7 (List.map EV.e y18))] [(100,.cells 73 [zZ PT.e y11.2.1,.mp 101,.mp 102]),(101,.mapH y11.2.2.1 [.u16,.u64] true (zO DT.k EV.e y11.2.2.2.1)),(102,.mapH y11.2.2.2.2.1 [.u16,.u64] true (zO DT.k EV.e y11.2.2.2.2.2))] (ZN hy19) hK rfl call23 rfl (by first | rfl | (simp;done) | (simp[PV.nilD,PV.ren,rn] <;> omega)) (by repeat' first | constructor | (congr 1;first | (simp;done) | (simp;omega) | omega)) (.cons rfl<|.nil) (.cons rfl<|.cons rfl<|.cons rfl<|.nil) (by repeat' first | constructor | (congr 1;first | (simp;done) | (simp;omega) | omega)) rfl rfl rfl rfl rfl rfl) ?_;refine yL [1,2,37,39] [7,8,39,20141,20142,20161,20162] ?_;refine zH ?_;refine yH 43 h (fun h=>?_) fun h=>?_
      ·refine zC ?_;obtain⟨y21,hy22,h⟩:=zP h;refine wt (LR.callObjS [(100,7),(101,8),(102,20141),(103,20142),(104,20161),(105,20162)] [] [100,101,102,103,104,105] [] [(100,.cells 73 [zZ PT.e y5.2.1,.mp 102,.mp 103]),(101,.cells 73 [zZ PT.e y11.2.1,.mp 104,.mp 105]),(102,.mapH y5.2.2.1 [.u16,.u64] true (zO DT.k EV.e y5.2.2.2.1)),(103,.mapH y5.2.2.2.2.1 [.u16,.u64] true (zO DT.k EV.e y5.2.2.2.2.2)),(104,.mapH y11.2.2.1 [.u16,.u64] true (zO DT.k EV.e y11.2.2.2.1)),(105,.mapH y11.2.2.2.2.1 [.u16,.u64] true (zO DT.k EV.e y11.2.2.2.2.2))] (WZ hy22) hK rfl call20 rfl (by first | rfl | (simp;done) | (simp[PV.nilD,PV.ren,rn] <;> omega)) (by repeat' first | constructor | (congr 1;first | (simp;done) | (simp;omega) | omega)) (.nil) (.cons rfl<|.cons rfl<|.cons rfl<|.cons rfl<|.cons rfl<|.cons rfl<|.nil) (by repeat' first | constructor | (congr 1;first | (simp;done) | (simp;omega) | omega)) rfl rfl rfl rfl rfl rfl) ?_;refine yL [43,46] [] ?_;refine zL ?_;exact⟨y21,(),h,sP⟩
      ·refine zV ?_;exact⟨false,(),h,sP⟩
     ·refine xl ?_;refine yL [47] [] ?_;refine zC ?_;exact⟨false,(),h,sP⟩
    ·refine yL [1,2,4,31] [4,7,8,20141,20142,20161,20162] ?_;refine xWa ?_;exact⟨false,(),h,sP⟩
   ·refine zF ?_;refine yL [1,2,31,32] [7,8,20141,20142,20161,20162] ?_;refine gs17A6 ?_;exact⟨false,(),h,sP⟩
  ·refine xl ?_;refine yL [1,2,31,33] [7,8,20141,20142,20161,20162] ?_;refine Jz ?_;exact⟨false,(),h,sP⟩
 ·rintro v13 _ h;refine wX ?_;cases h;exact xT
theorem qG{x1 r0}(h:(jg x1).wp (·=r0)):PFun prog 131 [.agg (List.map .d (RN.e x1))] (.d (.v (.bool r0))):=by
 refine yB [0] func131 ntmps131 ?_;intro ctx hK;refine zV ?_;refine yN (zK h) 18 [] [] (fun v2=>([(2,.d (.v (.bool v2)))],[])) (fun h=>?_) ?_
 ·refine zF ?_;refine yH 6 h (fun h=>?_) fun h=>?_
  ·refine zm ?_;refine yH 13 h (fun h=>?_) fun h=>?_
   ·refine zV ?_;exact⟨(decide (x1.hi<=281474976710655)),(),h,sP⟩
   ·refine zV ?_;exact⟨false,(),h,sP⟩
  ·refine vn ?_;exact⟨false,(),h,sP⟩
 ·rintro v2 _ h;refine wX ?_;cases h;exact xT
theorem UO{l1 n2 r0}(h:(UI l1 n2).wp (·=r0)):PFun prog 99 [zZ RN.e l1,zJ .u64 n2] (.d (.v (.bool r0))):=by
 refine yB [0,1] func99 ntmps99 ?_;intro ctx hK;refine xV ?_;refine vJ (zK h) 35 [] [] (fun _=>([],[])) (fun h=>?_) ?_
 ·refine g5 ?_;refine zc h 35 [0,1] [] (fun i30=>([(5,zJ .i64 i30)],[])) ?_;rintro N i30 _ h;refine zl ?_;refine zE h (fun h=>?_) fun h=>?_
  ·refine zH ?_;refine yN (zK h) 35 [0,1,5] [] (fun v32=>([(34,.d (.v (.bool v32)))],[])) (fun h=>?_) ?_
   ·refine zL ?_;obtain⟨x33,hy34,h⟩:=yF h;refine yZ hy34 ?_;refine g5 ?_;obtain⟨v35,hy36,h⟩:=zP h;refine xN (qG hy36) call131 ?_;refine g5 ?_;refine yH 17 h (fun h=>?_) fun h=>?_
    ·refine zC ?_;obtain⟨x38,hy39,h⟩:=yF h;refine XG hy39 ?_;refine zH ?_;refine yL [0,1,5,17,18,19,20,21,22,23,24] [] ?_;refine zC ?_;refine yH 26 h (fun h=>?_) fun h=>?_
     ·refine zL ?_;obtain⟨x41,hy42,h⟩:=yF h;refine XG hy42 ?_;refine zF ?_;exact⟨(decide (n2<=x41.hi)),(),h,sP⟩
     ·refine xV ?_;exact⟨false,(),h,sP⟩
    ·refine zm ?_;refine yL [0,1,5,17,18,19,20,21,22,23,24] [] ?_;refine vQ ?_;exact⟨false,(),h,sP⟩
   ·rintro v32 _ h;refine zE h (fun h=>?_) fun h=>?_
    ·refine zH ?_;refine wX ?_;cases h;exact xT
    ·refine zV ?_;exact⟨(IntKind.i64.wrap (i30+1)),(),h,sP⟩
  ·refine wZ ?_;exact⟨(),(),h,sP⟩
 ·rintro _ _ h;refine zH ?_;refine wX ?_;cases h;exact xT
theorem qH{l1 n2 r0}(h:(jh l1 n2).wp (·=r0)):PRow prog 172 [zZ (eK .u64) l1,zJ .u64 n2] 52 1 (List.map (eK .u64) r0):=by
 refine PRow.intro (sl:=[(0,_),(1,_)]) func172 rfl ntmps172 rfl rfl ?_;intro ctx hK;refine zC ?_;refine ws (aR 52 1 rfl) ?_;refine zL ?_;refine ws (aR 52 1 rfl) ?_;refine xl ?_;refine yN (zK h) 48 [1] [] (fun⟨done3,out4⟩=>([(5,.row 5 (out4.length)),(6,.d (.v (.bool done3)))],[(5,.row 52 1 (List.map (eK .u64) out4))])) (fun h=>?_) ?_
 ·refine g5 ?_;refine zc h 48 [0,1] [] (fun⟨done43,i44,out45⟩=>([(5,.row 5 (out45.length)),(6,.d (.v (.bool done43))),(7,zJ .i64 i44)],[(5,.row 52 1 (List.map (eK .u64) out45))])) ?_;rintro N ⟨done43,i44,out45⟩ _ h;refine zl ?_;refine zE h (fun h=>?_) fun h=>?_
  ·refine zC ?_;refine yN (zK h) 48 [0,1,7] [] (fun⟨done47,out48⟩=>([(5,.row 5 (out48.length)),(6,.d (.v (.bool done47)))],[(5,.row 52 1 (List.map (eK .u64) out48))])) (fun h=>?_) ?_
   ·refine zL ?_;refine yN (zK h) 48 [0,1,5,6,7] [5] (fun v49=>([(23,.d (.v (.bool v49)))],[])) (fun h=>?_) ?_
    ·refine zH ?_;refine yH 16 h (fun h=>?_) fun h=>?_
     ·refine zC ?_;obtain⟨x51,hy52,h⟩:=yF h;refine XG hy52 ?_;refine zF ?_;exact⟨(decide (n2<=x51)),(),h,sP⟩
     ·refine zl ?_;exact⟨false,(),h,sP⟩
    ·rintro v49 _ h;refine yN (zK h) 48 [0,1,7] [] (fun⟨done53,out54⟩=>([(5,.row 5 (out54.length)),(6,.d (.v (.bool done53)))],[(5,.row 52 1 (List.map (eK .u64) out54))])) (fun h=>?_) ?_
     ·refine zE h (fun h=>?_) fun h=>?_
      ·refine zH ?_;refine ws (LR.buildSliceD [.tmp 25] UF rfl rfl (.cons rfl rfl rfl<|.nil) (by decide) (by decide)) ?_;obtain⟨hy56,h⟩:=zq h;refine ws (LR.appT (enc:=(eK .u64)) (L:=out45) (R:=[n2]) [5,24] UF underlying156 rfl rfl rfl (Src.slT (enc:=(eK .u64)) (R:=[n2]) rfl (fun _=>rfl)) (fun _=>rfl) hy56 rfl rfl) ?_;refine zF ?_;exact⟨(true,(out45++[n2])),(),h,sP⟩
      ·refine g5 ?_;exact⟨(done43,out45),(),h,sP⟩
     ·rintro⟨done53,out54⟩ _ h;refine zH ?_;obtain⟨x57,hy58,h⟩:=yF h;refine yZ hy58 ?_;refine zH ?_;refine zE h (fun h=>?_) fun h=>?_
      ·refine zH ?_;obtain⟨x60,hy61,h⟩:=yF h;refine yZ hy61 ?_;refine g5 ?_;refine ws (LR.buildSliceD [.tmp 38] UF rfl rfl (.cons rfl rfl rfl<|.nil) (by decide) (by decide)) ?_;obtain⟨hy62,h⟩:=zq h;refine ws (LR.appT (enc:=(eK .u64)) (L:=out54) (R:=[x60]) [5,34] UF underlying156 rfl rfl rfl (Src.slT (enc:=(eK .u64)) (R:=[x60]) rfl (fun _=>rfl)) (fun _=>rfl) hy62 rfl rfl) ?_;refine zC ?_;exact⟨(done53,(out54++[x60])),(),h,sP⟩
      ·refine g5 ?_;exact⟨(done53,out54),(),h,sP⟩
   ·rintro⟨done47,out48⟩ _ h;refine zF ?_;exact⟨(done47,(IntKind.i64.wrap (i44+1)),out48),(),h,sP⟩
  ·refine wZ ?_;exact⟨(done43,out45),(),h,sP⟩
 ·rintro⟨done3,out4⟩ _ h;refine zV ?_;refine yN (zK h) 48 [] [] (fun out63=>([(5,.row 5 (out63.length))],[(5,.row 52 1 (List.map (eK .u64) out63))])) (fun h=>?_) ?_
  ·refine zE h (fun h=>?_) fun h=>?_
   ·refine zL ?_;refine ws (LR.buildSliceD [.tmp 44] UF rfl rfl (.cons rfl rfl rfl<|.nil) (by decide) (by decide)) ?_;obtain⟨hy65,h⟩:=zq h;refine ws (LR.appT (enc:=(eK .u64)) (L:=out4) (R:=[n2]) [5,43] UF underlying156 rfl rfl rfl (Src.slT (enc:=(eK .u64)) (R:=[n2]) rfl (fun _=>rfl)) (fun _=>rfl) hy65 rfl rfl) ?_;refine zC ?_;exact⟨(out4++[n2]),(),h,sP⟩
   ·refine g5 ?_;exact⟨out4,(),h,sP⟩
  ·rintro out63 _ h;refine zF ?_;refine wX ?_;cases h;exact⟨.inr rfl,4,rfl,.inr ⟨5,_,rfl,(by simp),rfl⟩⟩
theorem QS{a1 b2 r0}(h:(Xs a1 b2).wp (·=r0)):PFun prog 141 [zZ RN.e a1,zZ RN.e b2] (zZ (eK .u64) r0):=by
 refine yB [0,1] func141 ntmps141 ?_;intro ctx hK;refine zC ?_;refine ws (aR 52 1 rfl) ?_;refine zL ?_;refine ws (aR 52 1 rfl) ?_;refine zF ?_;obtain⟨hy3,h⟩:=zq h;refine ws (LR.appT (enc:=RN.e) (L:=([]:List RN)) (R:=a1) [8] xw underlying60 rfl uc rfl (Src.slT (enc:=RN.e) (R:=a1) rfl (fun _=>rfl)) (fun _=>rfl) hy3 rfl rfl) ?_;refine g5 ?_;obtain⟨hy4,h⟩:=zq h;refine ws (LR.appT (enc:=RN.e) (L:=(([]:List RN)++a1)) (R:=b2) [10] xw underlying60 rfl rfl rfl (Src.slT (enc:=RN.e) (R:=b2) rfl (fun _=>rfl)) (fun _=>rfl) hy4 rfl rfl) ?_;refine zm ?_;refine yN (zK h) 40 [] [] (fun out5=>([(5,zZ (eK .u64) out5)],[])) (fun h=>?_) ?_
 ·refine g5 ?_;refine zc h 40 [6] [8] (fun⟨out38,i39⟩=>([(5,zZ (eK .u64) out38),(7,zJ .i64 i39)],[])) ?_ (hs:=Sub.trans (Sub.frz [5] hK rfl uc (AllRow.get (.cons rfl<|.nil)))<|zEa);rintro N ⟨out38,i39⟩ _ h;refine zl ?_;refine zE h (fun h=>?_) fun h=>?_
  ·refine zC ?_;refine yN (zK h) 40 [6,7] [8] (fun out41=>([(5,zZ (eK .u64) out41)],[])) (fun h=>?_) ?_
   ·refine zF ?_;obtain⟨x42,hy43,h⟩:=yF h;refine ws (LR.idxRowT (L:=((([]:List RN)++a1)++b2)) (y:=x42) underlying60 sizeOf90 rfl uc rfl hy43) ?_;refine ws (LR.loadRpT (enc:=RN.e) (L:=((([]:List RN)++a1)++b2)) (y:=x42) isAgg90 sizeOf90 rfl rfl hy43.2) ?_;obtain⟨v44,hy45,h⟩:=zP h;refine xN (qG hy45) call131 ?_;refine g5 ?_;refine zE h (fun h=>?_) fun h=>?_
    ·refine zF ?_;obtain⟨x47,hy48,h⟩:=yF h;refine ws (LR.idxRowT (L:=((([]:List RN)++a1)++b2)) (y:=x47) underlying60 sizeOf90 rfl uc rfl hy48) ?_;refine g5 ?_;refine ws (LR.loadRpF (enc:=RN.e) (L:=((([]:List RN)++a1)++b2)) (y:=x47) isAgg52 rfl rfl hy48.2 rfl) ?_;obtain⟨v49,hy50,h⟩:=zP h;refine ws (LR.rowN (qH hy50) rfl call172 rfl rfl rfl rfl) ?_;refine zH ?_;refine yL [5,6,7,31] [8,30] ?_;refine zC ?_;obtain⟨x51,hy52,h⟩:=yF h;refine ws (LR.idxRowT (L:=((([]:List RN)++a1)++b2)) (y:=x51) underlying60 sizeOf90 rfl uc rfl hy52) ?_;refine g5 ?_;refine ws (LR.loadRpF (enc:=RN.e) (L:=((([]:List RN)++a1)++b2)) (y:=x51) isAgg52 rfl rfl hy52.2 rfl) ?_;refine g5 ?_;obtain⟨v53,hy54,h⟩:=zP h;refine PWl.frz [5,31] hK (.cons rfl<|.cons rfl<|.nil) rfl (by simp) ?_;refine ws (LR.rowN (qH hy54) rfl call172 rfl rfl rfl rfl) ?_;refine zC ?_;exact⟨v53,(),h,Sub.trans (Sub.frz [5,38] hK rfl (by simp) (AllRow.get (.cons rfl<|.cons rfl<|.nil)))<|zEa⟩
    ·refine g5 ?_;exact⟨out38,(),h,zEa⟩
   ·rintro out41 _ h;refine zF ?_;exact⟨(out41,(IntKind.i64.wrap (i39+1))),(),h,zEa⟩
  ·refine wZ ?_;exact⟨out38,(),h,sP⟩
 ·rintro out5 _ h;refine zF ?_;refine wX ?_;cases h;exact xT
theorem UP{a1 b2 how3 r0}(h:(UJ a1 b2 how3).wp (·=r0)):PRow prog 125 [zZ RN.e a1,zZ RN.e b2,zJ .i64 how3] 90 2 (List.map RN.e r0):=by
 refine PRow.intro (sl:=[(0,_),(1,_),(2,_)]) func125 rfl ntmps125 rfl rfl ?_;intro ctx hK;refine zC ?_;refine ws (aR 90 2 rfl) ?_;refine zF ?_;obtain⟨v4,hy5,h⟩:=zP h;refine xN (QS hy5) call141 ?_;refine zH ?_;refine ws (aR 90 2 rfl) ?_;refine zV ?_;refine yN (zK h) 100 [] [] (fun out6=>([(8,.row 8 (out6.length))],[(8,.row 90 2 (List.map RN.e out6))])) (fun h=>?_) ?_
 ·refine g5 ?_;refine zc h 100 [0,1,2,7] [] (fun⟨i85,out86⟩=>([(8,.row 8 (out86.length)),(9,zJ .i64 i85)],[(8,.row 90 2 (List.map RN.e out86))])) ?_;rintro N ⟨i85,out86⟩ _ h;refine xV ?_;refine zE h (fun h=>?_) fun h=>?_
  ·refine zC ?_;refine yN (zK h) 100 [0,1,2,7,9] [] (fun out88=>([(8,.row 8 (out88.length))],[(8,.row 90 2 (List.map RN.e out88))])) (fun h=>?_) ?_
   ·refine zL ?_;refine yU ?_;obtain⟨x89,hy90,h⟩:=yF h;refine xa hy90 ?_;refine h5 ?_;obtain⟨v91,hy92,h⟩:=zP h;refine qs (fun _ U W=>cN (UO hy92) U call99 (xY (fun a b=>U a b) rfl rfl) rfl rfl rfl) ?_;refine yU ?_;obtain⟨x93,hy94,h⟩:=yF h;refine xa hy94 ?_;refine h5 ?_;obtain⟨v95,hy96,h⟩:=zP h;refine qs (fun _ U W=>cN (UO hy96) U call99 (xY (fun a b=>U a b) rfl rfl) rfl rfl rfl) ?_;refine yU ?_;refine g5 ?_;refine uU [0,1,2,7,8,9,10,11] [8] ?_;refine yN (zK h) 100 [0,1,2,7,8,9,10,11] [8] (fun in97=>([(12,.d (.v (.bool in97)))],[])) (fun h=>?_) ?_
    ·refine zL ?_;refine yH 37 h (fun h=>?_) fun h=>?_
     ·refine zH ?_;exact⟨true,(),h,sP⟩
     ·refine zH ?_;exact⟨v95,(),h,sP⟩
    ·rintro in97 _ h;refine zV ?_;refine yN (zK h) 100 [0,1,2,7,8,9,10,11] [8] (fun in99=>([(12,.d (.v (.bool in99)))],[])) (fun h=>?_) ?_
     ·refine zE h (fun h=>?_) fun h=>?_
      ·refine yN (zK h) 100 [0,1,2,7,8,9,10,11] [8] (fun in101=>([(12,.d (.v (.bool in101)))],[])) (fun h=>?_) ?_
       ·refine zL ?_;refine yH 43 h (fun h=>?_) fun h=>?_
        ·refine zH ?_;exact⟨v95,(),h,sP⟩
        ·refine zH ?_;exact⟨false,(),h,sP⟩
       ·rintro in101 _ h;exact⟨in101,(),h,sP⟩
      ·refine g5 ?_;exact⟨in97,(),h,sP⟩
     ·rintro in99 _ h;refine zV ?_;refine yN (zK h) 100 [0,1,2,7,8,9] [8] (fun in103=>([(12,.d (.v (.bool in103)))],[])) (fun h=>?_) ?_
      ·refine zE h (fun h=>?_) fun h=>?_
       ·refine yN (zK h) 100 [0,1,2,7,8,9] [8] (fun in105=>([(12,.d (.v (.bool in105)))],[])) (fun h=>?_) ?_
        ·refine zL ?_;refine yH 49 h (fun h=>?_) fun h=>?_
         ·refine zF ?_;exact⟨(!v95),(),h,sP⟩
         ·refine zF ?_;exact⟨false,(),h,sP⟩
        ·rintro in105 _ h;exact⟨in105,(),h,sP⟩
       ·refine g5 ?_;exact⟨in99,(),h,sP⟩
      ·rintro in103 _ h;refine zl ?_;refine yN (zK h) 100 [0,1,2,7,8,9,12,13] [8] (fun v107=>([(73,.d (.v (.bool v107)))],[])) (fun h=>?_) ?_
       ·refine g5 ?_;refine zy ?_;refine qy 57 h (fun h=>?_) fun h=>?_
        ·refine vV ?_;refine qy 61 h (fun h=>?_) fun h=>?_
         ·refine zy ?_;obtain⟨x110,hy111,h⟩:=yF h;refine qt (fun _ U W=>LR.idxRowT (L:=out86) (y:=x110) underlying60 sizeOf90 U rfl U hy111) ?_;refine h5 ?_;refine qt (fun _ U W=>LR.loadRpF (enc:=RN.e) (L:=out86) (y:=x110) isAgg52 U (W rfl) hy111.2 rfl) ?_;refine yU ?_;obtain⟨x112,hy113,h⟩:=yF h;refine VP hy113 ?_;refine vV ?_;exact⟨(decide ((IntKind.u64.wrap (x110.hi+1))=x112)),(),h,sP⟩
         ·refine vWa ?_;exact⟨false,(),h,sP⟩
        ·refine hs17A6 ?_;exact⟨false,(),h,sP⟩
       ·rintro v107 _ h;refine zE h (fun h=>?_) fun h=>?_
        ·refine zV ?_;obtain⟨x115,hy116,h⟩:=yF h;refine yZ hy116 ?_;refine zC ?_;obtain⟨x117,hy118,h⟩:=yF h;refine ws (LR.idxRowT (L:=out86) (y:=x117) underlying60 sizeOf90 rfl rfl rfl hy118) ?_;refine g5 ?_;refine ws (LR.storeRpT (enc:=RN.e) (L:=out86) (a:=x117) (b:=(⟨x117.lo,(IntKind.u64.wrap (x115 - 1))⟩:RN)) sizeOf52 rfl rfl rfl rfl rfl hy118.2 rfl rfl) ?_;refine g5 ?_;exact⟨(List.set out86 ((Int.toNat ((IntKind.i64.wrap ((out86.length:Int) - 1))))) ((⟨x117.lo,(IntKind.u64.wrap (x115 - 1))⟩:RN))),(),h,zEa⟩
        ·refine zH ?_;refine zE h (fun h=>?_) fun h=>?_
         ·refine uU [0,1,2,7,8,9] [8] ?_;refine PWc.regionE [zt [85] [8],{ws:=[86]},{ws:=[87]},{ws:=[88]},{ws:=[89]},{ws:=[90]},{ws:=[91]},{ws:=[92]},{ws:=[93]},{ws:=[94]},{ws:=[95]},{ws:=[96]},{ws:=[97]},⟨[8,85,98],[8],[8],[],[(8,[8,85])],[8],[],[]⟩,zt [8] [8]] (by kernel_rfl) (by kernel_rfl) rfl ?_;refine yU ?_;obtain⟨x120,hy121,h⟩:=yF h;refine kp (fun _ U W=>iX (enc:=(eK .u64)) (L:=v4) (y:=x120) underlying156 sizeOf52 U U hy121 (fun _=>rfl)) ?_;refine vV ?_;obtain⟨x122,hy123,h⟩:=yF h;refine kp (fun _ U W=>iX (enc:=(eK .u64)) (L:=v4) (y:=x122) underlying156 sizeOf52 U U hy123 (fun _=>rfl)) ?_;refine zy ?_;refine kp (fun _ U W=>LR.build (ns:=[_,_]) Wg rfl (w4a (fun a b=>U a b) rfl rfl) rfl) ?_;refine kp (fun _ U W=>LR.buildSliceD [.tmp 96] xw rfl rfl (.cons U rfl rfl<|.nil) (by decide) (by decide)) ?_;obtain⟨hy124,h⟩:=zq h;refine PQe.stepA [8,85] (fun _ U W ha=>LR.appT (enc:=RN.e) (L:=out86) (R:=[(⟨x120,(IntKind.u64.wrap (x122 - 1))⟩:RN)]) [8,85] xw underlying60 (U rfl rfl) rfl (W rfl rfl) (Src.slT (enc:=RN.e) (R:=[(⟨x120,(IntKind.u64.wrap (x122 - 1))⟩:RN)]) (U rfl rfl) (fun _=>rfl)) (fun _=>rfl) hy124 rfl ha) rfl (.inl rfl) rfl ?_;refine h5 ?_;refine PQe.nil ?_;exact⟨(out86++[(⟨x120,(IntKind.u64.wrap (x122 - 1))⟩:RN)]),(),h,zEa⟩
         ·refine g5 ?_;exact⟨out86,(),h,sP⟩
   ·rintro out88 _ h;refine zF ?_;exact⟨((IntKind.i64.wrap (i85+1)),out88),(),h,sP⟩
  ·refine wZ ?_;exact⟨out86,(),h,sP⟩
 ·rintro out6 _ h;refine zF ?_;refine wX ?_;cases h;exact⟨.inr rfl,6,rfl,.inr ⟨8,_,rfl,(by simp),rfl⟩⟩
theorem jr{a1 b2 r0}(h:(VV a1 b2).wp (·=r0)):PRow prog 84 [zZ RN.e a1,zZ RN.e b2] 90 2 (List.map RN.e r0):=by
 refine PRow.intro (sl:=[(0,_),(1,_)]) func84 rfl ntmps84 rfl rfl ?_;intro ctx hK;refine zC ?_;refine ws (aR 90 2 rfl) ?_;refine zF ?_;obtain⟨v3,hy4,h⟩:=zP h;refine ws (LR.rowN (UP hy4) rfl call125 rfl rfl rfl rfl)<|yL [0,1,5,6,7] [7] ?_;refine zC ?_;refine wX ?_;cases h;exact⟨.inr rfl,4,rfl,.inr ⟨7,_,rfl,(by simp),rfl⟩⟩
theorem Wm{c1 dev2 r0}(h:(Xu c1 dev2).wp (·=r0)):PFun prog 83 [zZ PT.e c1,zJ .u16 dev2] (zZ RN.e r0):=by
 refine yB [0,1] func83 ntmps83 ?_;intro ctx hK;refine zC ?_;refine ws (aR 90 2 rfl) ?_;refine zL ?_;refine ws (aR 90 2 rfl) ?_;refine zV ?_;refine yN (zK h) 32 [] [] (fun out3=>([(5,zZ RN.e out3)],[])) (fun h=>?_) ?_
 ·refine g5 ?_;refine zc h 32 [0,1] [] (fun⟨out28,i29⟩=>([(5,zZ RN.e out28),(6,zJ .i64 i29)],[])) ?_ (hs:=Sub.trans (Sub.frz [5] hK rfl uc (AllRow.get (.cons rfl<|.nil)))<|sP);rintro N ⟨out28,i29⟩ _ h;refine zl ?_;refine zE h (fun h=>?_) fun h=>?_
  ·refine zC ?_;refine yN (zK h) 32 [0,1,6] [] (fun out31=>([(5,zZ RN.e out31)],[])) (fun h=>?_) ?_
   ·refine zC ?_;refine yN (zK h) 32 [0,1,5,6] [] (fun v32=>([(23,.d (.v (.bool v32)))],[])) (fun h=>?_) ?_
    ·refine zL ?_;obtain⟨x33,hy34,h⟩:=yF h;refine yZ hy34 ?_;refine zF ?_;refine yH 20 h (fun h=>?_) fun h=>?_
     ·refine zH ?_;exact⟨(!decide (dev2=0)),(),h,sP⟩
     ·refine zH ?_;exact⟨false,(),h,sP⟩
    ·rintro v32 _ h;refine zE h (fun h=>?_) fun h=>?_
     ·refine zH ?_;obtain⟨x37,hy38,h⟩:=yF h;refine yZ hy38 ?_;refine zC ?_;obtain⟨v39,hy40,h⟩:=zP h;refine ws (LR.rowN (jr hy40) rfl call84 rfl rfl rfl rfl) ?_;refine zC ?_;exact⟨v39,(),h,Sub.trans (Sub.frz [5,30] hK rfl (by simp) (AllRow.get (.cons rfl<|.cons rfl<|.nil)))<|sP⟩
     ·refine g5 ?_;exact⟨out28,(),h,sP⟩
   ·rintro out31 _ h;refine zF ?_;exact⟨(out31,(IntKind.i64.wrap (i29+1))),(),h,sP⟩
  ·refine wZ ?_;exact⟨out28,(),h,sP⟩
 ·rintro out3 _ h;refine zF ?_;refine wX ?_;cases h;exact xT
theorem ZO{d1 r0}(h:(Zg d1).wp (·=r0)):PFun prog 98 [.agg (List.map .d (DT.e d1))] (.d (.v (.bool r0))):=by
 refine yB [0] func98 ntmps98 ?_;intro ctx hK;refine zV ?_;refine yN (zK h) 16 [] [] (fun v2=>([(2,.d (.v (.bool v2)))],[])) (fun h=>?_) ?_
 ·refine zF ?_;refine yH 6 h (fun h=>?_) fun h=>?_
  ·refine zF ?_;refine yH 11 h (fun h=>?_) fun h=>?_
   ·refine zV ?_;exact⟨(decide (d1.n < 281474976710656)),(),h,sP⟩
   ·refine zV ?_;exact⟨false,(),h,sP⟩
  ·refine vQ ?_;exact⟨false,(),h,sP⟩
 ·rintro v2 _ h;refine wX ?_;cases h;exact xT
theorem YK{c1 d2 r0}(h:(Zs c1 d2).wp (·=r0)):PFun prog 51 [zZ PT.e c1,.agg (List.map .d (DT.e d2))] (.d (.v (.bool r0))):=by
 refine yB [0,1] func51 ntmps51 ?_;intro ctx hK;refine zV ?_;refine yN (zK h) 16 [] [] (fun v3=>([(4,.d (.v (.bool v3)))],[])) (fun h=>?_) ?_
 ·refine g5 ?_;refine h5 ?_;obtain⟨v4,hy5,h⟩:=zP h;refine qs (fun _ U W=>cN (ZO hy5) U call98 (xY (fun a b=>U a b) rfl rfl) rfl rfl rfl) ?_;refine h5 ?_;refine qy 7 h (fun h=>?_) fun h=>?_
  ·refine yU ?_;obtain⟨v7,hy8,h⟩:=zP h;refine qt (fun _ U W=>cN (Wm hy8) U call83 (xY (fun a b=>U a b) rfl rfl) rfl rfl rfl) ?_;refine zy ?_;obtain⟨v9,hy10,h⟩:=zP h;refine qt (fun _ U W=>cN (UO hy10) U call99 (xY (fun a b=>U a b) rfl rfl) rfl rfl rfl) ?_;refine yU ?_;exact⟨v9,(),h,sP⟩
  ·refine vVa ?_;exact⟨false,(),h,sP⟩
 ·rintro v3 _ h;refine wX ?_;cases h;exact xT
theorem qI{l1 d2 r0}(h:(UK l1 d2).wp (·=r0)):PFun prog 61 [zZ DT.e l1,.agg (List.map .d (DT.e d2))] (.d (.v (.bool r0))):=by
 refine yB [0,1] func61 ntmps61 ?_;intro ctx hK;refine xl ?_;refine vJ (zK h) 18 [] [] (fun _=>([],[])) (fun h=>?_) ?_
 ·refine g5 ?_;refine zc h 18 [0,3] [3] (fun i12=>([(5,zJ .i64 i12)],[])) ?_;rintro N i12 _ h;refine zl ?_;refine zE h (fun h=>?_) fun h=>?_
  ·refine zF ?_;refine zy ?_;obtain⟨x14,hy15,h⟩:=yF h;refine xa hy15 ?_;refine zy ?_;refine qs (fun _ U W=>LR.eqlAgg U U rfl rfl vTa) ?_;refine h5 ?_;refine zE h (fun h=>?_) fun h=>?_
   ·refine zH ?_;refine wX ?_;cases h;exact xT
   ·refine zV ?_;exact⟨(IntKind.i64.wrap (i12+1)),(),h,sP⟩
  ·refine wZ ?_;exact⟨(),(),h,sP⟩
 ·rintro _ _ h;refine zH ?_;refine wX ?_;cases h;exact xT
theorem zoa{v1 r0}(h:(VW v1).wp (·=r0)):PFun prog 135 [zJ .u64 v1] (.tup [zJ .u16 r0.1,zJ .u64 r0.2]):=by
 refine yB [0] func135 ntmps135 ?_;intro ctx hK;refine xV ?_;refine ws (LR.convInt underlying51 (by rw[underlying52];rfl) rfl rfl) ?_;refine zF ?_;refine wX ?_;cases h;exact xTnA6
theorem QT{v1 r0}(h:(Xw v1).wp (·=r0)):PFun prog 107 [zJ .u64 v1] (.tup [.agg (List.map .d (DT.e r0.1)),.d (.v (.bool r0.2))]):=by
 refine yB [0] func107 ntmps107 ?_;intro ctx hK;refine zl ?_;obtain⟨v2,hy3,h⟩:=zP h;refine xN (zoa hy3) call135 ?_;refine xl ?_;refine ws (LR.build (ns:=[_,_]) Wf rfl rfl rfl) ?_;refine zm ?_;obtain⟨v4,hy5,h⟩:=zP h;refine xN (ZO hy5) call98 ?_;refine zC ?_;refine zE h (fun h=>?_) fun h=>?_
 ·refine zC ?_;refine ws (LR.build (ns:=[_,_]) Wf rfl rfl rfl) ?_;refine zL ?_;refine wX ?_;cases h;exact⟨.inr rfl,_,.cons (.agg isAgg54 sizeOf54 rfl rfl rfl rfl)<|.cons (.tmp rfl rfl)<|.nil,rfl⟩
 ·refine zm ?_;refine wX ?_;cases h;exact⟨.inr rfl,_,.cons (.agg isAgg54 sizeOf54 rfl rfl rfl rfl)<|.cons (.tmp rfl rfl)<|.nil,rfl⟩
theorem yla{f1 r0}(h:(Ur f1).wp (·=r0)):PFun prog 108 [zJ .u8 f1] (.d (.v (.bool r0))):=by
 refine yB [0] func108 ntmps108 ?_;intro ctx hK;refine zF ?_;refine yN (zK h) 9 [] [] (fun v2=>([(2,.d (.v (.bool v2)))],[])) (fun h=>?_) ?_
 ·refine zH ?_;refine yH 5 h (fun h=>?_) fun h=>?_
  ·refine zF ?_;exact⟨(decide (f1<=5)),(),h,sP⟩
  ·refine zF ?_;exact⟨false,(),h,sP⟩
 ·rintro v2 _ h;refine wX ?_;cases h;exact xT
theorem yma{s1 r0}(h:(Us s1).wp (·=r0)):PFun prog 109 [.d (.v (.string s1))] (.d (.v (.bool r0))):=by
 refine yB [0] func109 ntmps109 ?_;intro ctx hK;refine xV ?_;refine vJ (zK h) 23 [0] [] (fun _=>([],[])) (fun h=>?_) ?_
 ·refine g5 ?_;refine zc h 23 [0] [] (fun i19=>([(3,zJ .i64 i19)],[])) ?_;rintro N i19 _ h;refine zl ?_;refine zE h (fun h=>?_) fun h=>?_
  ·refine zH ?_;refine yN (zK h) 23 [0,3] [] (fun v21=>([(19,.d (.v (.bool v21)))],[])) (fun h=>?_) ?_
   ·refine zL ?_;obtain⟨b22,hy23,h⟩:=yF h;refine ws (LR.strIdx underlying9 rfl rfl hy23) ?_;refine zC ?_;refine yH 14 h (fun h=>?_) fun h=>?_
    ·refine zV ?_;exact⟨true,(),h,sP⟩
    ·refine zC ?_;obtain⟨b25,hy26,h⟩:=yF h;refine wt (LR.strIdx underlying9 rfl rfl hy26) ?_;refine zL ?_;exact⟨(decide (126 < b25)),(),h,sP⟩
   ·rintro v21 _ h;refine zE h (fun h=>?_) fun h=>?_
    ·refine zH ?_;refine wX ?_;cases h;exact xT
    ·refine zV ?_;exact⟨(IntKind.i64.wrap (i19+1)),(),h,sP⟩
  ·refine wZ ?_;exact⟨(),(),h,sP⟩
 ·rintro _ _ h;refine zm ?_;refine wX ?_;cases h;exact xT
theorem WG{a1 b2 r0}(h:(Wj a1 b2).wp (·=r0)):PFun prog 112 [.agg (List.map .d (DT.e a1)),.agg (List.map .d (DT.e b2))] (zJ .i64 r0):=by
 refine yB [0,1] func112 ntmps112 ?_;intro ctx hK;refine vQ ?_;refine ws (LR.eqlAgg rfl rfl rfl rfl vTa) ?_;refine g5 ?_;refine zE h (fun h=>?_) fun h=>?_
 ·refine zH ?_;refine wX ?_;cases h;exact xT
 ·refine zL ?_;refine yN (zK h) 27 [] [] (fun v4=>([(26,.d (.v (.bool v4)))],[])) (fun h=>?_) ?_
  ·refine zm ?_;refine yH 13 h (fun h=>?_) fun h=>?_
   ·refine zV ?_;refine yL [2,3,13,19] [2,3] ?_;refine zl ?_;exact⟨true,(),h,sP⟩
   ·refine zV ?_;refine yL [2,3,13,19] [2,3] ?_;refine yH 19 h (fun h=>?_) fun h=>?_
    ·refine zl ?_;exact⟨(decide (a1.n < b2.n)),(),h,sP⟩
    ·refine zl ?_;exact⟨false,(),h,sP⟩
  ·rintro v4 _ h;refine zE h (fun h=>?_) fun h=>?_
   ·refine zH ?_;refine wX ?_;cases h;exact xT
   ·refine zF ?_;refine wX ?_;cases h;exact xT
theorem QU{l1 r0}(h:(Xx l1).wp (·=r0)):PFun prog 110 [zZ DT.e l1] (.d (.v (.bool r0))):=by
 refine yB [0] func110 ntmps110 ?_;intro ctx hK;refine xV ?_;refine vJ (zK h) 21 [] [] (fun _=>([],[])) (fun h=>?_) ?_
 ·refine g5 ?_;refine zc h 21 [0] [] (fun i19=>([(3,zJ .i64 i19)],[])) ?_;rintro N i19 _ h;refine zl ?_;refine zE h (fun h=>?_) fun h=>?_
  ·refine zF ?_;refine yU ?_;obtain⟨x21,hy22,h⟩:=yF h;refine xa hy22 ?_;refine yU ?_;obtain⟨x23,hy24,h⟩:=yF h;refine xa hy24 ?_;refine h5 ?_;obtain⟨v25,hy26,h⟩:=zP h;refine qs (fun _ U W=>cN (WG hy26) U call112 (xY (fun a b=>U a b) rfl rfl) rfl rfl rfl) ?_;refine zy ?_;refine zE h (fun h=>?_) fun h=>?_
   ·refine zH ?_;refine wX ?_;cases h;exact xT
   ·refine zV ?_;exact⟨(IntKind.i64.wrap (i19+1)),(),h,sP⟩
  ·refine wZ ?_;exact⟨(),(),h,sP⟩
 ·rintro _ _ h;refine zH ?_;refine wX ?_;cases h;exact xT
theorem jt{e1 r0}(h:(VX e1).wp (·=r0)):PFun prog 60 [.agg (List.map .d (EV.e e1))] (.d (.v (.bool r0))):=by
 refine yB [0] func60 ntmps60 ?_;intro ctx hK;refine xV ?_;obtain⟨v2,hy3,h⟩:=zP h;refine xN (QT hy3) call107 ?_;refine xV ?_;refine yN (zK h) 91 [1] [1] (fun v4=>([(29,.d (.v (.bool v4)))],[])) (fun h=>?_) ?_
 ·refine zH ?_;refine yH 14 h (fun h=>?_) fun h=>?_
  ·refine zV ?_;refine yL [1,20] [1] ?_;refine xl ?_;exact⟨true,(),h,sP⟩
  ·refine zC ?_;obtain⟨v6,hy7,h⟩:=zP h;refine wt (cN (ZO hy7) rfl call98 rfl rfl rfl rfl) ?_;refine zL ?_;refine yL [1,20] [1] ?_;refine yH 20 h (fun h=>?_) fun h=>?_
   ·refine xl ?_;exact⟨true,(),h,sP⟩
   ·refine zH ?_;refine yH 24 h (fun h=>?_) fun h=>?_
    ·refine zV ?_;exact⟨(!decide (e1.kind=2)),(),h,sP⟩
    ·refine zV ?_;exact⟨false,(),h,sP⟩
 ·rintro v4 _ h;refine zE h (fun h=>?_) fun h=>?_
  ·refine zH ?_;refine wX ?_;cases h;exact xT
  ·refine zL ?_;refine yN (zK h) 91 [1] [1] (fun v11=>([(59,.d (.v (.bool v11)))],[])) (fun h=>?_) ?_
   ·refine zF ?_;refine yH 33 h (fun h=>?_) fun h=>?_
    ·refine zC ?_;obtain⟨v13,hy14,h⟩:=zP h;refine wt (cN (yla hy14) rfl call108 rfl rfl rfl rfl) ?_;refine zC ?_;refine yH 38 h (fun h=>?_) fun h=>?_
     ·refine zl ?_;refine yL [1,45,46] [1] ?_;refine Jy ?_;exact⟨true,(),h,sP⟩
     ·refine zC ?_;obtain⟨v16,hy17,h⟩:=zP h;refine wt (cN (yma hy17) rfl call109 rfl rfl rfl rfl) ?_;refine zH ?_;refine yH 45 h (fun h=>?_) fun h=>?_
      ·refine yL [1,45] [1] ?_;refine gs15A6 ?_;exact⟨true,(),h,sP⟩
      ·refine yL [1,45] [1] ?_;refine zH ?_;refine yH 49 h (fun h=>?_) fun h=>?_
       ·refine zH ?_;refine yH 53 h (fun h=>?_) fun h=>?_
        ·refine zm ?_;exact⟨true,(),h,sP⟩
        ·refine zm ?_;exact⟨(!decide (e1.text=(⟨#[]⟩:ByteArray))),(),h,sP⟩
       ·refine vQ ?_;exact⟨false,(),h,sP⟩
    ·refine Jy ?_;refine yL [1,45,47] [1] ?_;refine zC ?_;refine yH 49 h (fun h=>?_) fun h=>?_
     ·refine zH ?_;refine yH 53 h (fun h=>?_) fun h=>?_
      ·refine zm ?_;exact⟨true,(),h,sP⟩
      ·refine zm ?_;exact⟨(!decide (e1.text=(⟨#[]⟩:ByteArray))),(),h,sP⟩
     ·refine vQ ?_;exact⟨false,(),h,sP⟩
   ·rintro v11 _ h;refine zE h (fun h=>?_) fun h=>?_
    ·refine zH ?_;refine wX ?_;cases h;exact xT
    ·refine zV ?_;refine vJ (zK h) 91 [1] [1] (fun _=>([],[])) (fun h=>?_) ?_
     ·refine g5 ?_;refine zc h 91 [1] [1] (fun i37=>([(5,zJ .i64 i37)],[])) ?_;rintro N i37 _ h;refine xV ?_;refine zE h (fun h=>?_) fun h=>?_
      ·refine zl ?_;obtain⟨x39,hy40,h⟩:=yF h;refine yZ hy40 ?_;refine g5 ?_;obtain⟨v41,hy42,h⟩:=zP h;refine xN (ZO hy42) call98 ?_;refine zC ?_;refine zE h (fun h=>?_) fun h=>?_
       ·refine zH ?_;refine wX ?_;cases h;exact xT
       ·refine zV ?_;exact⟨(IntKind.i64.wrap (i37+1)),(),h,sP⟩
      ·refine wZ ?_;exact⟨(),(),h,sP⟩
     ·rintro _ _ h;refine g5 ?_;refine yN (zK h) 91 [] [] (fun v44=>([(2,.d (.v (.bool v44)))],[])) (fun h=>?_) ?_
      ·refine zV ?_;refine yH 78 h (fun h=>?_) fun h=>?_
       ·refine zC ?_;obtain⟨v46,hy47,h⟩:=zP h;refine wt (cN (QU hy47) rfl call110 rfl rfl rfl rfl) ?_;refine zC ?_;refine yH 83 h (fun h=>?_) fun h=>?_
        ·refine zH ?_;obtain⟨v49,hy50,h⟩:=zP h;refine wt (cN (qI hy50) rfl call61 rfl rfl rfl rfl) ?_;refine zH ?_;exact⟨(!v49),(),h,sP⟩
        ·refine xV ?_;exact⟨false,(),h,sP⟩
       ·refine Jy ?_;exact⟨false,(),h,sP⟩
      ·rintro v44 _ h;refine wX ?_;cases h;exact xT
theorem WH{l1 d2 r0}(h:(XM l1 d2).wp (·=r0)):PRow prog 111 [zZ DT.e l1,.agg (List.map .d (DT.e d2))] 54 2 (List.map DT.e r0):=by
 refine PRow.intro (sl:=[(0,_),(1,_)]) func111 rfl ntmps111 rfl rfl ?_;intro ctx hK;refine zL ?_;refine ws (aR 54 2 rfl) ?_;refine zL ?_;refine ws (aR 54 2 rfl) ?_;refine zV ?_;refine yN (zK h) 53 [0,3] [3] (fun out3=>([(5,.row 5 (out3.length))],[(5,.row 54 2 (List.map DT.e out3))])) (fun h=>?_) ?_
 ·refine g5 ?_;refine zc h 53 [0,3] [3] (fun⟨i26,out27⟩=>([(5,.row 5 (out27.length)),(6,zJ .i64 i26)],[(5,.row 54 2 (List.map DT.e out27))])) ?_;rintro N ⟨i26,out27⟩ _ h;refine zl ?_;refine zE h (fun h=>?_) fun h=>?_
  ·refine zC ?_;refine yN (zK h) 53 [0,3,6] [3] (fun out29=>([(5,.row 5 (out29.length))],[(5,.row 54 2 (List.map DT.e out29))])) (fun h=>?_) ?_
   ·refine zL ?_;refine zy ?_;obtain⟨x30,hy31,h⟩:=yF h;refine xa hy31 ?_;refine zy ?_;obtain⟨v32,hy33,h⟩:=zP h;refine qs (fun _ U W=>cN (WG hy33) U call112 (xY (fun a b=>U a b) rfl rfl) rfl rfl rfl) ?_;refine zy ?_;refine zE h (fun h=>?_) fun h=>?_
    ·refine zH ?_;obtain⟨x35,hy36,h⟩:=yF h;refine yZ hy36 ?_;refine g5 ?_;refine ws (LR.buildSliceD [.tmp 25] Zz rfl rfl (.cons rfl rfl rfl<|.nil) (by decide) (by decide))<|yL [0,3,5,6,21,26] [3,5] ?_;obtain⟨hy37,h⟩:=zq h;refine ws (LR.appT (enc:=DT.e) (L:=out27) (R:=[x35]) [5,21] Zz underlying55 rfl rfl rfl (Src.slT (enc:=DT.e) (R:=[x35]) rfl (fun _=>rfl)) (fun _=>rfl) hy37 rfl rfl) ?_;refine zC ?_;exact⟨(out27++[x35]),(),h,sP⟩
    ·refine g5 ?_;exact⟨out27,(),h,sP⟩
   ·rintro out29 _ h;refine zF ?_;exact⟨((IntKind.i64.wrap (i26+1)),out29),(),h,sP⟩
  ·refine wZ ?_;exact⟨out27,(),h,sP⟩
 ·rintro out3 _ h;refine zH ?_;refine ws (LR.buildSliceD [.tmp 29] Zz rfl rfl (.cons rfl rfl rfl<|.nil) (by decide) (by decide)) ?_;obtain⟨hy38,h⟩:=zq h;refine ws (LR.appT (enc:=DT.e) (L:=out3) (R:=[d2]) [5,28] Zz underlying55 rfl rfl rfl (Src.slT (enc:=DT.e) (R:=[d2]) rfl (fun _=>rfl)) (fun _=>rfl) hy38 rfl rfl) ?_;refine zm ?_;refine yN (zK h) 53 [] [] (fun out39=>([(5,.row 5 (out39.length))],[(5,.row 54 2 (List.map DT.e out39))])) (fun h=>?_) ?_
  ·refine g5 ?_;refine zc h 53 [0,3] [3] (fun⟨i62,out63⟩=>([(5,.row 5 (out63.length)),(7,zJ .i64 i62)],[(5,.row 54 2 (List.map DT.e out63))])) ?_;rintro N ⟨i62,out63⟩ _ h;refine zl ?_;refine zE h (fun h=>?_) fun h=>?_
   ·refine zC ?_;refine yN (zK h) 53 [0,3,7] [3] (fun out65=>([(5,.row 5 (out65.length))],[(5,.row 54 2 (List.map DT.e out65))])) (fun h=>?_) ?_
    ·refine zL ?_;refine zy ?_;obtain⟨x66,hy67,h⟩:=yF h;refine xa hy67 ?_;refine zy ?_;obtain⟨v68,hy69,h⟩:=zP h;refine qs (fun _ U W=>cN (WG hy69) U call112 (xY (fun a b=>U a b) rfl rfl) rfl rfl rfl) ?_;refine zy ?_;refine zE h (fun h=>?_) fun h=>?_
     ·refine zH ?_;obtain⟨x71,hy72,h⟩:=yF h;refine yZ hy72 ?_;refine g5 ?_;refine ws (LR.buildSliceD [.tmp 49] Zz rfl rfl (.cons rfl rfl rfl<|.nil) (by decide) (by decide))<|yL [0,3,5,7,45,50] [3,5] ?_;obtain⟨hy73,h⟩:=zq h;refine ws (LR.appT (enc:=DT.e) (L:=out63) (R:=[x71]) [5,45] Zz underlying55 rfl rfl rfl (Src.slT (enc:=DT.e) (R:=[x71]) rfl (fun _=>rfl)) (fun _=>rfl) hy73 rfl rfl) ?_;refine zC ?_;exact⟨(out63++[x71]),(),h,sP⟩
     ·refine g5 ?_;exact⟨out63,(),h,sP⟩
    ·rintro out65 _ h;refine zF ?_;exact⟨((IntKind.i64.wrap (i62+1)),out65),(),h,sP⟩
   ·refine wZ ?_;exact⟨out63,(),h,sP⟩
  ·rintro out39 _ h;refine zF ?_;refine wX ?_;cases h;exact⟨.inr rfl,4,rfl,.inr ⟨5,_,rfl,(by simp),rfl⟩⟩
theorem yna{a1 b2 r0}(h:(Ut a1 b2).wp (·=r0)):PFun prog 82 [zZ PT.e a1,zZ PT.e b2] (zZ DT.e r0):=by
 refine yB [0,1] func82 ntmps82 ?_;intro ctx hK;refine zC ?_;refine ws (aR 54 2 rfl) ?_;refine zL ?_;refine ws (aR 54 2 rfl) ?_;refine zV ?_;refine yN (zK h) 37 [1] [] (fun out3=>([(5,zZ DT.e out3)],[])) (fun h=>?_) ?_
 ·refine g5 ?_;refine zc h 37 [0,1] [] (fun⟨out16,i17⟩=>([(5,zZ DT.e out16),(6,zJ .i64 i17)],[])) ?_ (hs:=Sub.trans (Sub.frz [5] hK rfl uc (AllRow.get (.cons rfl<|.nil)))<|sP);rintro N ⟨out16,i17⟩ _ h;refine zl ?_;refine zE h (fun h=>?_) fun h=>?_
  ·refine zm ?_;obtain⟨x19,hy20,h⟩:=yF h;refine yZ hy20 ?_;refine zC ?_;refine ws (LR.build (ns:=[_,_]) Wf rfl rfl rfl) ?_;obtain⟨v21,hy22,h⟩:=zP h;refine ws (LR.rowN (WH hy22) rfl call111 rfl rfl rfl rfl) ?_;refine zm ?_;exact⟨(v21,(IntKind.i64.wrap (i17+1))),(),h,Sub.trans (Sub.frz [5,21] hK rfl (by simp) (AllRow.get (.cons rfl<|.cons rfl<|.nil)))<|sP⟩
  ·refine wZ ?_;exact⟨out16,(),h,sP⟩
 ·rintro out3 _ h;refine zF ?_;refine yN (zK h) 37 [] [] (fun out23=>([(5,zZ DT.e out23)],[])) (fun h=>?_) ?_
  ·refine g5 ?_;refine zc h 37 [1] [] (fun⟨out36,i37⟩=>([(5,zZ DT.e out36),(7,zJ .i64 i37)],[])) ?_;rintro N ⟨out36,i37⟩ _ h;refine zl ?_;refine zE h (fun h=>?_) fun h=>?_
   ·refine zm ?_;obtain⟨x39,hy40,h⟩:=yF h;refine yZ hy40 ?_;refine zC ?_;refine ws (LR.build (ns:=[_,_]) Wf rfl rfl rfl) ?_;obtain⟨v41,hy42,h⟩:=zP h;refine ws (LR.rowN (WH hy42) rfl call111 rfl rfl rfl rfl) ?_;refine zm ?_;exact⟨(v41,(IntKind.i64.wrap (i37+1))),(),h,Sub.trans (Sub.frz [5,35] hK rfl (by simp) (AllRow.get (.cons rfl<|.cons rfl<|.nil)))<|sP⟩
   ·refine wZ ?_;exact⟨out36,(),h,sP⟩
  ·rintro out23 _ h;refine zF ?_;refine wX ?_;cases h;exact xT
theorem yoa{a1 b2 r0}(h:(Uu a1 b2).wp (·=r0)):PRow prog 85 [zZ RN.e a1,zZ RN.e b2] 90 2 (List.map RN.e r0):=by
 refine PRow.intro (sl:=[(0,_),(1,_)]) func85 rfl ntmps85 rfl rfl ?_;intro ctx hK;refine zC ?_;refine ws (aR 90 2 rfl) ?_;refine zF ?_;obtain⟨v3,hy4,h⟩:=zP h;refine ws (LR.rowN (UP hy4) rfl call125 rfl rfl rfl rfl)<|yL [0,1,5,6,7] [7] ?_;refine zC ?_;refine wX ?_;cases h;exact⟨.inr rfl,4,rfl,.inr ⟨7,_,rfl,(by simp),rfl⟩⟩
theorem zpa{a1 b2 r0}(h:(VY a1 b2).wp (·=r0)):PRow prog 86 [zZ RN.e a1,zZ RN.e b2] 90 2 (List.map RN.e r0):=by
 refine PRow.intro (sl:=[(0,_),(1,_)]) func86 rfl ntmps86 rfl rfl ?_;intro ctx hK;refine zC ?_;refine ws (aR 90 2 rfl) ?_;refine zF ?_;obtain⟨v3,hy4,h⟩:=zP h;refine ws (LR.rowN (UP hy4) rfl call125 rfl rfl rfl rfl)<|yL [0,1,5,6,7] [7] ?_;refine zC ?_;refine wX ?_;cases h;exact⟨.inr rfl,4,rfl,.inr ⟨7,_,rfl,(by simp),rfl⟩⟩
theorem UQ{a1 b2 how3 r0}(h:(UL a1 b2 how3).wp (·=r0)):PRow prog 36 [zZ PT.e a1,zZ PT.e b2,zJ .i64 how3] 62 2 (List.map PT.e r0):=by
 refine PRow.intro (sl:=[(0,_),(1,_),(2,_)]) func36 rfl ntmps36 rfl rfl ?_;intro ctx hK;refine zC ?_;refine ws (aR 62 2 rfl) ?_;refine zL ?_;refine ws (aR 62 2 rfl) ?_;refine zF ?_;obtain⟨v4,hy5,h⟩:=zP h;refine xN (yna hy5) call82 ?_;refine zm ?_;refine yN (zK h) 63 [] [] (fun out6=>([(7,.row 7 (out6.length))],[(7,.row 62 2 (List.map PT.e out6))])) (fun h=>?_) ?_
 ·refine g5 ?_;refine zc h 63 [0,1,2,8] [] (fun⟨i57,out58⟩=>([(7,.row 7 (out58.length)),(9,zJ .i64 i57)],[(7,.row 62 2 (List.map PT.e out58))])) ?_;rintro N ⟨i57,out58⟩ _ h;refine zl ?_;refine zE h (fun h=>?_) fun h=>?_
  ·refine zC ?_;refine yN (zK h) 63 [0,1,2,8,9] [] (fun out60=>([(7,.row 7 (out60.length))],[(7,.row 62 2 (List.map PT.e out60))])) (fun h=>?_) ?_
   ·refine zL ?_;refine yU ?_;obtain⟨x61,hy62,h⟩:=yF h;refine xa hy62 ?_;refine zy ?_;obtain⟨v63,hy64,h⟩:=zP h;refine qs (fun _ U W=>cN (Wm hy64) U call83 (xY (fun a b=>U a b) rfl rfl) rfl rfl rfl) ?_;refine yU ?_;obtain⟨x65,hy66,h⟩:=yF h;refine xa hy66 ?_;refine zy ?_;obtain⟨v67,hy68,h⟩:=zP h;refine qs (fun _ U W=>cN (Wm hy68) U call83 (xY (fun a b=>U a b) rfl rfl) rfl rfl rfl) ?_;refine yU ?_;refine g5 ?_;refine uU [0,1,2,7,8,9,10,11] [7] ?_;refine zL ?_;obtain⟨v69,hy70,h⟩:=zP h;refine ws (LR.rowN (jr hy70) rfl call84 rfl rfl rfl rfl) ?_;refine zl ?_;refine yN (zK h) 63 [0,1,2,7,8,9,10,11] [7] (fun z71=>([(12,zZ RN.e z71)],[])) (fun h=>?_) ?_
    ·refine zE h (fun h=>?_) fun h=>?_
     ·refine zL ?_;obtain⟨v73,hy74,h⟩:=zP h;refine ws (LR.rowN (yoa hy74) rfl call85 rfl rfl rfl rfl) ?_;refine zC ?_;exact⟨v73,(),h,Sub.trans (Sub.frz [38] hK rfl (by simp) (AllRow.get (.cons rfl<|.nil)))<|Sub.trans (Sub.frz [12,43] hK rfl (by simp) (AllRow.get (.cons rfl<|.cons rfl<|.nil)))<|sP⟩
     ·refine g5 ?_;exact⟨v69,(),h,Sub.trans (Sub.frz [12,38] hK rfl (by simp) (AllRow.get (.cons rfl<|.cons rfl<|.nil)))<|sP⟩
    ·rintro z71 _ h;refine zV ?_;refine yN (zK h) 63 [0,1,2,7,8,9] [7] (fun z75=>([(12,zZ RN.e z75)],[])) (fun h=>?_) ?_
     ·refine zE h (fun h=>?_) fun h=>?_
      ·refine zL ?_;obtain⟨v77,hy78,h⟩:=zP h;refine ws (LR.rowN (zpa hy78) rfl call86 rfl rfl rfl rfl) ?_;refine zC ?_;exact⟨v77,(),h,Sub.trans (Sub.frz [12,48] hK rfl (by simp) (AllRow.get (.cons rfl<|.cons rfl<|.nil)))<|sP⟩
      ·refine g5 ?_;exact⟨z71,(),h,sP⟩
     ·rintro z75 _ h;refine zV ?_;refine zE h (fun h=>?_) fun h=>?_
      ·refine zH ?_;obtain⟨x80,hy81,h⟩:=yF h;refine yZ hy81 ?_;refine zL ?_;refine ws (LR.build (ns:=[_,_]) qv rfl rfl rfl)<|ws (LR.buildSliceD [.tmp 59] XF rfl rfl (.cons rfl rfl rfl<|.nil) (by decide) (by decide)) ?_;obtain⟨hy82,h⟩:=zq h;refine ws (LR.appT (enc:=PT.e) (L:=out58) (R:=[(⟨x80.dev,z75⟩:PT)]) [7,52] XF underlying24 rfl rfl rfl (Src.slT (enc:=PT.e) (R:=[(⟨x80.dev,z75⟩:PT)]) rfl (fun _=>rfl)) (fun _=>rfl) hy82 rfl rfl) ?_;refine zC ?_;exact⟨(out58++[(⟨x80.dev,z75⟩:PT)]),(),h,sP⟩
      ·refine g5 ?_;exact⟨out58,(),h,sP⟩
   ·rintro out60 _ h;refine zF ?_;exact⟨((IntKind.i64.wrap (i57+1)),out60),(),h,sP⟩
  ·refine wZ ?_;exact⟨out58,(),h,sP⟩
 ·rintro out6 _ h;refine zF ?_;refine wX ?_;cases h;exact⟨.inr rfl,6,rfl,.inr ⟨7,_,rfl,(by simp),rfl⟩⟩
theorem Wn{a1 b2 r0}(h:(YZ a1 b2).wp (·=r0)):PRow prog 62 [zZ PT.e a1,zZ PT.e b2] 62 2 (List.map PT.e r0):=by
 refine PRow.intro (sl:=[(0,_),(1,_)]) func62 rfl ntmps62 rfl rfl ?_;intro ctx hK;refine zC ?_;refine ws (aR 62 2 rfl) ?_;refine zF ?_;obtain⟨v3,hy4,h⟩:=zP h;refine ws (LR.rowN (UQ hy4) rfl call36 rfl rfl rfl rfl)<|yL [0,1,5,6,7] [7] ?_;refine zC ?_;refine wX ?_;cases h;exact⟨.inr rfl,4,rfl,.inr ⟨7,_,rfl,(by simp),rfl⟩⟩
theorem vwa{l1 r0}(h:(xZa l1).wp (·=r0)):PFun prog 63 [zZ DT.e l1] (zZ PT.e r0):=by
 refine yB [0] func63 ntmps63 ?_;intro ctx hK;refine zC ?_;refine ws (aR 62 2 rfl) ?_;refine zL ?_;refine ws (aR 62 2 rfl) ?_;refine zV ?_;refine yN (zK h) 38 [] [] (fun out2=>([(3,zZ PT.e out2)],[])) (fun h=>?_) ?_
 ·refine g5 ?_;refine zc h 38 [0] [] (fun⟨out35,i36⟩=>([(3,zZ PT.e out35),(4,zJ .i64 i36)],[])) ?_ (hs:=Sub.trans (Sub.frz [3] hK rfl uc (AllRow.get (.cons rfl<|.nil)))<|sP);rintro N ⟨out35,i36⟩ _ h;refine zl ?_;refine zE h (fun h=>?_) fun h=>?_
  ·refine zC ?_;refine yN (zK h) 38 [0,4] [] (fun out38=>([(3,zZ PT.e out38)],[])) (fun h=>?_) ?_
   ·refine zF ?_;obtain⟨x39,hy40,h⟩:=yF h;refine yZ hy40 ?_;refine g5 ?_;obtain⟨v41,hy42,h⟩:=zP h;refine xN (ZO hy42) call98 ?_;refine g5 ?_;refine zE h (fun h=>?_) fun h=>?_
    ·refine uU [0,3,4] [] ?_;refine PWc.regionE [{ws:=[16]},{ws:=[17]},{ws:=[18]},{ws:=[19]},{ws:=[20]},{ws:=[21]},{ws:=[22]},{ws:=[23]},{ws:=[24]},{ws:=[25]},{ws:=[26]},{ws:=[27]},{ws:=[28]},{ws:=[29]},{ws:=[30]},{ws:=[31]},{ws:=[32]},{ws:=[33]},{ws:=[34]},{ws:=[35]},⟨[36],[36],[],[36],[],[36],[],[]⟩,zt [3] [36]] (by kernel_rfl) (by kernel_rfl) rfl ?_;refine yU ?_;obtain⟨x44,hy45,h⟩:=yF h;refine kp (fun _ U W=>iX (enc:=DT.e) (L:=l1) (y:=x44) underlying55 sizeOf54 U U hy45 (fun _=>rfl)) ?_;refine vV ?_;obtain⟨x46,hy47,h⟩:=yF h;refine kp (fun _ U W=>iX (enc:=DT.e) (L:=l1) (y:=x46) underlying55 sizeOf54 U U hy47 (fun _=>rfl)) ?_;refine vV ?_;obtain⟨x48,hy49,h⟩:=yF h;refine kp (fun _ U W=>iX (enc:=DT.e) (L:=l1) (y:=x48) underlying55 sizeOf54 U U hy49 (fun _=>rfl)) ?_;refine zy ?_;refine kp (fun _ U W=>LR.build (ns:=[_,_]) Wg rfl (w4a (fun a b=>U a b) rfl rfl) rfl) ?_;refine kp (fun _ U W=>LR.buildSliceD [.tmp 32] xw rfl rfl (.cons U rfl rfl<|.nil) (by decide) (by decide)) ?_;refine kp (fun _ U W=>LR.build (ns:=[_,_]) qv rfl (w4a (fun a b=>U a b) rfl rfl) rfl) ?_;refine kp (fun _ U W=>LR.buildSliceD [.tmp 34] XF rfl rfl (.cons U rfl rfl<|.nil) (by decide) (by decide)) ?_;obtain⟨v50,hy51,h⟩:=zP h;refine PQe.stepN (fun _ U W hf=>LR.rowN (Wn hy51) (U rfl rfl) call62 (xY U rfl rfl) rfl rfl hf) rfl (.inl rfl) rfl ?_;refine h5 ?_;refine PQe.nil ?_;exact⟨v50,(),h,Sub.trans (Sub.frz [3,36] hK rfl (by simp) (AllRow.get (.cons rfl<|.cons rfl<|.nil)))<|sP⟩
    ·refine g5 ?_;exact⟨out35,(),h,sP⟩
   ·rintro out38 _ h;refine zF ?_;exact⟨(out38,(IntKind.i64.wrap (i36+1))),(),h,sP⟩
  ·refine wZ ?_;exact⟨out35,(),h,sP⟩
 ·rintro out2 _ h;refine zF ?_;refine wX ?_;cases h;exact xT
theorem Wo{l1 r0}(h:(WA l1).wp (·=r0)):PFun prog 64 [zZ EV.e l1] (zZ DT.e r0):=by
 refine yB [0] func64 ntmps64 ?_;intro ctx hK;refine zC ?_;refine ws (aR 54 2 rfl) ?_;refine zL ?_;refine ws (aR 54 2 rfl) ?_;refine zV ?_;refine yN (zK h) 40 [] [] (fun out2=>([(3,zZ DT.e out2)],[])) (fun h=>?_) ?_
 ·refine g5 ?_;refine zc h 40 [0] [] (fun⟨out79,i80⟩=>([(3,zZ DT.e out79),(4,zJ .i64 i80)],[])) ?_ (hs:=Sub.trans (Sub.frz [3] hK rfl uc (AllRow.get (.cons rfl<|.nil)))<|sP);rintro N ⟨out79,i80⟩ _ h;refine zl ?_;refine zE h (fun h=>?_) fun h=>?_
  ·refine zC ?_;refine yN (zK h) 40 [0,4] [] (fun out82=>([(3,zZ DT.e out82)],[])) (fun h=>?_) ?_
   ·refine zV ?_;obtain⟨x83,hy84,h⟩:=yF h;refine yZ hy84 ?_;refine zC ?_;obtain⟨v85,hy86,h⟩:=zP h;refine ws (LR.rowN (WH hy86) rfl call111 rfl rfl rfl rfl) ?_;refine zm ?_;refine zc h 40 [0,4] [] (fun⟨out107,k108⟩=>([(3,zZ DT.e out107),(5,zJ .i64 k108)],[])) ?_ (hs:=Sub.trans (Sub.frz [3,18] hK rfl (by simp) (AllRow.get (.cons rfl<|.cons rfl<|.nil)))<|sP);rintro N ⟨out107,k108⟩ _ h;refine zV ?_;obtain⟨x109,hy110,h⟩:=yF h;refine yZ hy110 ?_;refine zF ?_;refine zE h (fun h=>?_) fun h=>?_
    ·refine zm ?_;obtain⟨x112,hy113,h⟩:=yF h;refine yZ hy113 ?_;refine zL ?_;obtain⟨x114,hy115,h⟩:=yF h;refine yZ hy115 ?_;refine g5 ?_;refine yL [0,3,4,5,29,37] [] ?_;obtain⟨v116,hy117,h⟩:=zP h;refine ws (LR.rowN (WH hy117) rfl call111 rfl rfl rfl rfl) ?_;refine zm ?_;exact⟨(v116,(IntKind.i64.wrap (k108+1))),(),h,Sub.trans (Sub.frz [3,38] hK rfl (by simp) (AllRow.get (.cons rfl<|.cons rfl<|.nil)))<|sP⟩
    ·refine wZ ?_;exact⟨out107,(),h,sP⟩
   ·rintro out82 _ h;refine zF ?_;exact⟨(out82,(IntKind.i64.wrap (i80+1))),(),h,sP⟩
  ·refine wZ ?_;exact⟨out79,(),h,sP⟩
 ·rintro out2 _ h;refine zF ?_;refine wX ?_;cases h;exact xT
theorem wca{l1 e2 r0}(h:(QB l1 e2).wp (·=r0)):PFun prog 65 [zZ EV.e l1,.agg (List.map .d (EV.e e2))] (zZ EV.e r0):=by
 refine yB [0,1] func65 ntmps65 ?_;intro ctx hK;refine zL ?_;refine ws (aR 57 7 rfl) ?_;refine zL ?_;refine ws (aR 57 7 rfl) ?_;refine xl ?_;refine vJ (zK h) 50 [3] [3] (fun⟨done3,out4⟩=>([(5,.row 5 (out4.length)),(6,.d (.v (.bool done3)))],[(5,.row 57 7 (List.map EV.e out4))])) (fun h=>?_) ?_
 ·refine g5 ?_;refine zc h 50 [0,3] [3] (fun⟨done38,i39,out40⟩=>([(5,.row 5 (out40.length)),(6,.d (.v (.bool done38))),(7,zJ .i64 i39)],[(5,.row 57 7 (List.map EV.e out40))])) ?_;rintro N ⟨done38,i39,out40⟩ _ h;refine zl ?_;refine zE h (fun h=>?_) fun h=>?_
  ·refine zF ?_;refine zy ?_;obtain⟨x42,hy43,h⟩:=yF h;refine xa hy43 ?_;refine vV ?_;obtain⟨v44,hy45,h⟩:=zP h;refine qs (fun _ U W=>cN (WG hy45) U call112 (xY (fun a b=>U a b) rfl rfl) rfl rfl rfl) ?_;refine zy ?_;refine zV ?_;refine zE h (fun h=>?_) fun h=>?_
   ·refine zL ?_;refine yL [25] [] ?_;refine zC ?_;refine wX ?_;cases h;exact xT
   ·refine zL ?_;refine yN (zK h) 50 [0,3,5,6,7] [3,5] (fun v47=>([(31,.d (.v (.bool v47)))],[])) (fun h=>?_) ?_
    ·refine zC ?_;refine yL [0,3,5,6,7,26] [3,5] ?_;refine zC ?_;refine yH 28 h (fun h=>?_) fun h=>?_
     ·refine zH ?_;exact⟨(!done38),(),h,sP⟩
     ·refine zH ?_;exact⟨false,(),h,sP⟩
    ·rintro v47 _ h;refine yN (zK h) 50 [0,3,7] [3] (fun⟨done49,out50⟩=>([(5,.row 5 (out50.length)),(6,.d (.v (.bool done49)))],[(5,.row 57 7 (List.map EV.e out50))])) (fun h=>?_) ?_
     ·refine zE h (fun h=>?_) fun h=>?_
      ·refine zH ?_;refine ws (LR.buildSliceD [.tmp 33] yh rfl rfl (.cons rfl rfl rfl<|.nil) (by decide) (by decide)) ?_;obtain⟨hy52,h⟩:=zq h;refine ws (LR.appT (enc:=EV.e) (L:=out40) (R:=[e2]) [5,32] yh underlying28 rfl rfl rfl (Src.slT (enc:=EV.e) (R:=[e2]) rfl (fun _=>rfl)) (fun _=>rfl) hy52 rfl rfl) ?_;refine zF ?_;exact⟨(true,(out40++[e2])),(),h,sP⟩
      ·refine g5 ?_;exact⟨(done38,out40),(),h,sP⟩
     ·rintro⟨done49,out50⟩ _ h;refine zH ?_;obtain⟨x53,hy54,h⟩:=yF h;refine yZ hy54 ?_;refine g5 ?_;refine ws (LR.buildSliceD [.tmp 40] yh rfl rfl (.cons rfl rfl rfl<|.nil) (by decide) (by decide)) ?_;obtain⟨hy55,h⟩:=zq h;refine ws (LR.appT (enc:=EV.e) (L:=out50) (R:=[x53]) [5,36] yh underlying28 rfl rfl rfl (Src.slT (enc:=EV.e) (R:=[x53]) rfl (fun _=>rfl)) (fun _=>rfl) hy55 rfl rfl) ?_;refine zm ?_;exact⟨(done49,(IntKind.i64.wrap (i39+1)),(out50++[x53])),(),h,sP⟩
  ·refine wZ ?_;exact⟨(done38,out40),(),h,sP⟩
 ·rintro⟨done3,out4⟩ _ h;refine zV ?_;refine yN (zK h) 50 [] [] (fun out56=>([(5,.row 5 (out56.length))],[(5,.row 57 7 (List.map EV.e out56))])) (fun h=>?_) ?_
  ·refine zE h (fun h=>?_) fun h=>?_
   ·refine zL ?_;refine ws (LR.buildSliceD [.tmp 46] yh rfl rfl (.cons rfl rfl rfl<|.nil) (by decide) (by decide)) ?_;obtain⟨hy58,h⟩:=zq h;refine ws (LR.appT (enc:=EV.e) (L:=out4) (R:=[e2]) [5,45] yh underlying28 rfl rfl rfl (Src.slT (enc:=EV.e) (R:=[e2]) rfl (fun _=>rfl)) (fun _=>rfl) hy58 rfl rfl) ?_;refine zC ?_;exact⟨(out4++[e2]),(),h,sP⟩
   ·refine g5 ?_;exact⟨out4,(),h,sP⟩
  ·rintro out56 _ h;refine zF ?_;refine wX ?_;cases h;exact⟨.inr rfl,_,.cons (.row rfl rfl (by simp))<|.nil,rfl⟩
theorem qJ{b1 e2 r0}(h:(Yb b1 e2).wp (·=r0)):PFun prog 24 [.agg (List.map .d (RB.e b1)),.agg (List.map .d (EV.e e2))] (.tup [.agg (List.map .d (RB.e r0.1)),zJ .i64 r0.2]):=by
 refine yB [0,1] func24 ntmps24 ?_;intro ctx hK;refine vQ ?_;obtain⟨v3,hy4,h⟩:=zP h;refine xN (jt hy4) call60 ?_;refine zC ?_;refine zE h (fun h=>?_) fun h=>?_
 ·refine zV ?_;refine wX ?_;cases h;exact⟨.inr rfl,_,.cons (.agg isAgg30 sizeOf30 rfl rfl rfl rfl)<|.cons (.tmp rfl rfl)<|.nil,rfl⟩
 ·refine zl ?_;obtain⟨v6,hy7,h⟩:=zP h;refine xN (YK hy7) call51 ?_;refine g5 ?_;refine zE h (fun h=>?_) fun h=>?_
  ·refine zV ?_;refine wX ?_;cases h;exact⟨.inr rfl,_,.cons (.agg isAgg30 sizeOf30 rfl rfl rfl rfl)<|.cons (.tmp rfl rfl)<|.nil,rfl⟩
  ·refine zL ?_;refine ws (aR 57 7 rfl) ?_;refine zV ?_;refine yN (zK h) 63 [2,3,4] [2,3,4] (fun l9=>([(6,.row 6 (l9.length))],[(6,.row 57 7 (List.map EV.e l9))])) (fun h=>?_) ?_
   ·refine g5 ?_;refine zc h 63 [2,3,4] [2,3,4] (fun⟨i40,l41⟩=>([(6,.row 6 (l41.length)),(7,zJ .i64 i40)],[(6,.row 57 7 (List.map EV.e l41))])) ?_;rintro N ⟨i40,l41⟩ _ h;refine xV ?_;refine zE h (fun h=>?_) fun h=>?_
    ·refine zC ?_;refine yN (zK h) 63 [2,3,4,7] [2,3,4] (fun l43=>([(6,.row 6 (l43.length))],[(6,.row 57 7 (List.map EV.e l43))])) (fun h=>?_) ?_
     ·refine zC ?_;refine yN (zK h) 63 [2,3,4,6,7] [2,3,4,6] (fun v44=>([(43,.d (.v (.bool v44)))],[])) (fun h=>?_) ?_
      ·refine g5 ?_;refine yU ?_;obtain⟨x45,hy46,h⟩:=yF h;refine xa hy46 ?_;refine vV ?_;refine qy 32 h (fun h=>?_) fun h=>?_
       ·refine hs12A6 ?_;exact⟨true,(),h,sP⟩
       ·refine wMa ?_;obtain⟨x48,hy49,h⟩:=yF h;refine VP hy49 ?_;refine zy ?_;obtain⟨v50,hy51,h⟩:=zP h;refine qt (fun _ U W=>cN (qI hy51) U call61 (xY (fun a b=>U a b) rfl rfl) rfl rfl rfl) ?_;refine yU ?_;exact⟨(!v50),(),h,sP⟩
      ·rintro v44 _ h;refine zE h (fun h=>?_) fun h=>?_
       ·refine zF ?_;obtain⟨x53,hy54,h⟩:=yF h;refine yZ hy54 ?_;refine g5 ?_;refine ws (LR.buildSliceD [.tmp 49] yh rfl rfl (.cons rfl rfl rfl<|.nil) (by decide) (by decide)) ?_;obtain⟨hy55,h⟩:=zq h;refine ws (LR.appT (enc:=EV.e) (L:=l41) (R:=[x53]) [6,44] yh underlying28 rfl rfl rfl (Src.slT (enc:=EV.e) (R:=[x53]) rfl (fun _=>rfl)) (fun _=>rfl) hy55 rfl rfl) ?_;refine zC ?_;exact⟨(l41++[x53]),(),h,sP⟩
       ·refine g5 ?_;exact⟨l41,(),h,sP⟩
     ·rintro l43 _ h;refine zF ?_;exact⟨((IntKind.i64.wrap (i40+1)),l43),(),h,sP⟩
    ·refine wZ ?_;exact⟨l41,(),h,sP⟩
   ·rintro l9 _ h;refine g5 ?_;refine uU [2,3,4,6] [2,3,4,6] ?_;refine PWc.frz [6] hK (.cons rfl<|.nil) rfl (by simp) ?_;refine PWc.regionE [zt [52] [2],⟨[53],[],[2],[],[],[],[],[]⟩,⟨[54],[],[3],[],[],[],[],[]⟩,{ws:=[55]},{ws:=[56]},{ws:=[57]},{ws:=[58]},{ws:=[59]},⟨[60],[],[3],[],[],[],[],[]⟩,{ws:=[61]},{ws:=[62]},⟨[],[4],[4],[],[],[],[],[]⟩,{ws:=[5]}] (by kernel_rfl) (by kernel_rfl) rfl ?_;refine yU ?_;refine kp (fun _ U W=>LR.buildSliceD [.tmp 54] yh rfl rfl (.cons U rfl rfl<|.nil) (by decide) (by decide)) ?_;obtain⟨v56,hy57,h⟩:=zP h;refine kp (fun _ U W=>cN (Wo hy57) U call64 (xY (fun a b=>U a b) rfl rfl) rfl rfl rfl) ?_;obtain⟨v58,hy59,h⟩:=zP h;refine kp (fun _ U W=>cN (vwa hy59) U call63 (xY (fun a b=>U a b) rfl rfl) rfl rfl rfl) ?_;obtain⟨v60,hy61,h⟩:=zP h;refine kp (fun _ U W=>cN (PRow.fun (Wn hy61)) U call62 (xY (fun a b=>U a b) rfl rfl) rfl rfl rfl) ?_;refine zy ?_;obtain⟨v62,hy63,h⟩:=zP h;refine kp (fun _ U W=>cN (wca hy63) U call65 (xY (fun a b=>U a b) rfl rfl) rfl rfl rfl) ?_;refine kp (fun _ U W=>LR.build (ns:=[_,_]) yXa rfl (w4a (fun a b=>U a b) rfl rfl) rfl) ?_;refine ks (fun _ U W=>sB (ns:=[_,_]) sizeOf30 U U rfl rfl (W rfl rfl) rfl rfl) ?_;refine h5 ?_;refine PQe.nil<|wX ?_;cases h;exact⟨.inr rfl,_,.cons (.agg isAgg30 sizeOf30 rfl rfl rfl rfl)<|.cons (.tmp rfl rfl)<|.nil,rfl⟩
theorem ju{l1 k2 r0}(h:(Va l1 k2).wp (·=r0)):PRow prog 101 [zZ EV.e l1,zJ .u8 k2] 57 7 (List.map EV.e r0):=by
 refine PRow.intro (sl:=[(0,_),(1,_)]) func101 rfl ntmps101 rfl rfl ?_;intro ctx hK;refine zC ?_;refine ws (aR 57 7 rfl) ?_;refine zL ?_;refine ws (aR 57 7 rfl) ?_;refine zV ?_;refine yN (zK h) 28 [] [] (fun out3=>([(5,.row 5 (out3.length))],[(5,.row 57 7 (List.map EV.e out3))])) (fun h=>?_) ?_
 ·refine g5 ?_;refine zc h 28 [0,1] [] (fun⟨i22,out23⟩=>([(5,.row 5 (out23.length)),(6,zJ .i64 i22)],[(5,.row 57 7 (List.map EV.e out23))])) ?_;rintro N ⟨i22,out23⟩ _ h;refine zl ?_;refine zE h (fun h=>?_) fun h=>?_
  ·refine zC ?_;refine yN (zK h) 28 [0,1,6] [] (fun out25=>([(5,.row 5 (out25.length))],[(5,.row 57 7 (List.map EV.e out25))])) (fun h=>?_) ?_
   ·refine zF ?_;obtain⟨x26,hy27,h⟩:=yF h;refine yZ hy27 ?_;refine zF ?_;refine zE h (fun h=>?_) fun h=>?_
    ·refine zH ?_;obtain⟨x29,hy30,h⟩:=yF h;refine yZ hy30 ?_;refine g5 ?_;refine ws (LR.buildSliceD [.tmp 24] yh rfl rfl (.cons rfl rfl rfl<|.nil) (by decide) (by decide))<|yL [0,1,5,6,20,25] [5] ?_;obtain⟨hy31,h⟩:=zq h;refine ws (LR.appT (enc:=EV.e) (L:=out23) (R:=[x29]) [5,20] yh underlying28 rfl rfl rfl (Src.slT (enc:=EV.e) (R:=[x29]) rfl (fun _=>rfl)) (fun _=>rfl) hy31 rfl rfl) ?_;refine zC ?_;exact⟨(out23++[x29]),(),h,sP⟩
    ·refine g5 ?_;exact⟨out23,(),h,sP⟩
   ·rintro out25 _ h;refine zF ?_;exact⟨((IntKind.i64.wrap (i22+1)),out25),(),h,sP⟩
  ·refine wZ ?_;exact⟨out23,(),h,sP⟩
 ·rintro out3 _ h;refine zF ?_;refine wX ?_;cases h;exact⟨.inr rfl,4,rfl,.inr ⟨5,_,rfl,(by simp),rfl⟩⟩
theorem Wp{b1 r0}(h:(WB b1).wp (·=r0)):PRow prog 53 [.agg (List.map .d (RB.e b1))] 57 7 (List.map EV.e r0):=by
 refine PRow.intro (sl:=[(0,_)]) func53 rfl ntmps53 rfl rfl ?_;intro ctx hK;refine zL ?_;refine ws (aR 57 7 rfl) ?_;refine zF ?_;obtain⟨v2,hy3,h⟩:=zP h;refine ws (LR.rowN (ju hy3) rfl call101 rfl rfl rfl rfl)<|yL [0,1,3,4,5] [1,5] ?_;refine zC ?_;refine wX ?_;cases h;exact⟨.inr rfl,2,rfl,.inr ⟨5,_,rfl,(by simp),rfl⟩⟩
theorem QV{l1 cid2 r0}(h:(WC l1 cid2).wp (·=r0)):PFun prog 66 [zZ EV.e l1,zJ .u64 cid2] (zZ DT.e r0):=by
 refine yB [0,1] func66 ntmps66 ?_;intro ctx hK;refine zC ?_;refine ws (aR 54 2 rfl) ?_;refine zL ?_;refine ws (aR 57 7 rfl) ?_;refine zV ?_;refine yN (zK h) 37 [] [] (fun some3=>([(5,.row 5 (some3.length))],[(5,.row 57 7 (List.map EV.e some3))])) (fun h=>?_) ?_
 ·refine g5 ?_;refine zc h 37 [0,1] [] (fun⟨i30,some31⟩=>([(5,.row 5 (some31.length)),(6,zJ .i64 i30)],[(5,.row 57 7 (List.map EV.e some31))])) ?_;rintro N ⟨i30,some31⟩ _ h;refine zl ?_;refine zE h (fun h=>?_) fun h=>?_
  ·refine zC ?_;refine yN (zK h) 37 [0,1,6] [] (fun some33=>([(5,.row 5 (some33.length))],[(5,.row 57 7 (List.map EV.e some33))])) (fun h=>?_) ?_
   ·refine zC ?_;refine yN (zK h) 37 [0,1,5,6] [5] (fun v34=>([(27,.d (.v (.bool v34)))],[])) (fun h=>?_) ?_
    ·refine zL ?_;obtain⟨x35,hy36,h⟩:=yF h;refine yZ hy36 ?_;refine zH ?_;refine yH 19 h (fun h=>?_) fun h=>?_
     ·refine zC ?_;obtain⟨x38,hy39,h⟩:=yF h;refine XG hy39 ?_;refine zC ?_;refine yL [0,1,5,6,19,20,21,22,23,24] [5] ?_;refine zH ?_;exact⟨(decide (x38.cid=cid2)),(),h,sP⟩
     ·refine zF ?_;refine yL [0,1,5,6,19,20,21,22,23,24] [5] ?_;refine zH ?_;exact⟨false,(),h,sP⟩
    ·rintro v34 _ h;refine zE h (fun h=>?_) fun h=>?_
     ·refine zH ?_;obtain⟨x41,hy42,h⟩:=yF h;refine yZ hy42 ?_;refine g5 ?_;refine ws (LR.buildSliceD [.tmp 32] yh rfl rfl (.cons rfl rfl rfl<|.nil) (by decide) (by decide)) ?_;obtain⟨hy43,h⟩:=zq h;refine ws (LR.appT (enc:=EV.e) (L:=some31) (R:=[x41]) [5,28] yh underlying28 rfl rfl rfl (Src.slT (enc:=EV.e) (R:=[x41]) rfl (fun _=>rfl)) (fun _=>rfl) hy43 rfl rfl) ?_;refine zC ?_;exact⟨(some31++[x41]),(),h,sP⟩
     ·refine g5 ?_;exact⟨some31,(),h,sP⟩
   ·rintro some33 _ h;refine zF ?_;exact⟨((IntKind.i64.wrap (i30+1)),some33),(),h,sP⟩
  ·refine wZ ?_;exact⟨some31,(),h,sP⟩
 ·rintro some3 _ h;refine zL ?_;obtain⟨v44,hy45,h⟩:=zP h;refine PWl.frz [5,35] hK (.cons rfl<|.cons rfl<|.nil) rfl (by simp) ?_;refine xN (Wo hy45) call64 ?_;refine zC ?_;refine wX ?_;cases h;exact xT
theorem ypa{l1 cid2 f3 r0}(h:(Uv l1 cid2 f3).wp (·=r0)):PFun prog 67 [zZ EV.e l1,zJ .u64 cid2,zJ .u8 f3] (zZ DT.e r0):=by
 refine yB [0,1,2] func67 ntmps67 ?_;intro ctx hK;refine zC ?_;refine ws (aR 54 2 rfl) ?_;refine zL ?_;refine ws (aR 57 7 rfl) ?_;refine zV ?_;refine yN (zK h) 48 [] [] (fun some4=>([(7,.row 7 (some4.length))],[(7,.row 57 7 (List.map EV.e some4))])) (fun h=>?_) ?_
 ·refine g5 ?_;refine zc h 48 [0,1,2] [] (fun⟨i37,some38⟩=>([(7,.row 7 (some38.length)),(8,zJ .i64 i37)],[(7,.row 57 7 (List.map EV.e some38))])) ?_;rintro N ⟨i37,some38⟩ _ h;refine zl ?_;refine zE h (fun h=>?_) fun h=>?_
  ·refine zC ?_;refine yN (zK h) 48 [0,1,2,8] [] (fun some40=>([(7,.row 7 (some40.length))],[(7,.row 57 7 (List.map EV.e some40))])) (fun h=>?_) ?_
   ·refine zC ?_;refine yN (zK h) 48 [0,1,2,7,8] [7] (fun v41=>([(38,.d (.v (.bool v41)))],[])) (fun h=>?_) ?_
    ·refine zL ?_;obtain⟨x42,hy43,h⟩:=yF h;refine yZ hy43 ?_;refine zH ?_;refine yH 21 h (fun h=>?_) fun h=>?_
     ·refine zC ?_;obtain⟨x45,hy46,h⟩:=yF h;refine XG hy46 ?_;refine g5 ?_;refine yL [0,1,2,7,8,21,22,23,24,25] [7] ?_;refine zF ?_;refine yH 30 h (fun h=>?_) fun h=>?_
      ·refine zC ?_;obtain⟨x48,hy49,h⟩:=yF h;refine XG hy49 ?_;refine zV ?_;exact⟨(decide (x48.field=f3)),(),h,sP⟩
      ·refine xV ?_;exact⟨false,(),h,sP⟩
     ·refine zH ?_;refine yL [0,1,2,7,8,21,22,23,24,25] [7] ?_;refine Jy ?_;exact⟨false,(),h,sP⟩
    ·rintro v41 _ h;refine zE h (fun h=>?_) fun h=>?_
     ·refine zH ?_;obtain⟨x51,hy52,h⟩:=yF h;refine yZ hy52 ?_;refine g5 ?_;refine ws (LR.buildSliceD [.tmp 43] yh rfl rfl (.cons rfl rfl rfl<|.nil) (by decide) (by decide)) ?_;obtain⟨hy53,h⟩:=zq h;refine ws (LR.appT (enc:=EV.e) (L:=some38) (R:=[x51]) [7,39] yh underlying28 rfl rfl rfl (Src.slT (enc:=EV.e) (R:=[x51]) rfl (fun _=>rfl)) (fun _=>rfl) hy53 rfl rfl) ?_;refine zC ?_;exact⟨(some38++[x51]),(),h,sP⟩
     ·refine g5 ?_;exact⟨some38,(),h,sP⟩
   ·rintro some40 _ h;refine zF ?_;exact⟨((IntKind.i64.wrap (i37+1)),some40),(),h,sP⟩
  ·refine wZ ?_;exact⟨some38,(),h,sP⟩
 ·rintro some4 _ h;refine zL ?_;obtain⟨v54,hy55,h⟩:=zP h;refine PWl.frz [7,46] hK (.cons rfl<|.cons rfl<|.nil) rfl (by simp) ?_;refine xN (Wo hy55) call64 ?_;refine zC ?_;refine wX ?_;cases h;exact xT
theorem yqa{b1 e2 r0}(h:(Uw b1 e2).wp (·=r0)):PFun prog 25 [.agg (List.map .d (RB.e b1)),.agg (List.map .d (EV.e e2))] (.tup [.agg (List.map .d (EV.e r0.1)),zJ .i64 r0.2]):=by
 refine yB [0,1] func25 ntmps25 ?_;intro ctx hK;refine vQ ?_;refine PWl.sub (Sub.nilCell (id:=3) (j:=6) rfl rfl) ?_;refine zL ?_;refine uU [2,3,4] [2,3,4] ?_;refine zC ?_;obtain⟨v3,hy4,h⟩:=zP h;refine xN (jt hy4) call60 ?_;refine zC ?_;refine zE h (fun h=>?_) fun h=>?_
 ·refine zC ?_;refine ws (LR.build (ns:=[_,_,_,_,_,_,_]) qu rfl rfl rfl) ?_;refine zL ?_;refine wX ?_;cases h;exact⟨.inr rfl,_,.cons (.agg isAgg57 sizeOf57 rfl rfl rfl rfl)<|.cons (.tmp rfl rfl)<|.nil,rfl⟩
 ·refine zl ?_;obtain⟨v6,hy7,h⟩:=zP h;refine xN (YK hy7) call51 ?_;refine g5 ?_;refine zE h (fun h=>?_) fun h=>?_
  ·refine zC ?_;refine ws (LR.build (ns:=[_,_,_,_,_,_,_]) qu rfl rfl rfl) ?_;refine zL ?_;refine wX ?_;cases h;exact⟨.inr rfl,_,.cons (.agg isAgg57 sizeOf57 rfl rfl rfl rfl)<|.cons (.tmp rfl rfl)<|.nil,rfl⟩
  ·refine zC ?_;refine uU [2,3,4] [2,3,4] ?_;refine PWc.regionE [⟨[17],[],[2],[],[],[],[],[]⟩,{ws:=[18]},zt [19] [3],⟨[20],[],[3],[],[],[],[],[]⟩,{ws:=[21]},zt [22] [3],⟨[],[3],[3],[],[],[],[],[]⟩] (by kernel_rfl) (by kernel_rfl) rfl ?_;refine h5 ?_;obtain⟨v9,hy10,h⟩:=zP h;refine kp (fun _ U W=>cN (PRow.fun (Wp hy10)) U call53 (xY (fun a b=>U a b) rfl rfl) rfl rfl rfl) ?_;refine zy ?_;obtain⟨v11,hy12,h⟩:=zP h;refine kp (fun _ U W=>cN (QV hy12) U call66 (xY (fun a b=>U a b) rfl rfl) rfl rfl rfl) ?_;refine h5 ?_;refine ks (fun _ U W=>sB (ns:=[_,_,_,_,_,_,_]) sizeOf55 U U rfl rfl (W rfl rfl) rfl rfl)<|PQe.nil ?_;refine zm ?_;refine yN (zK h) 40 [3,4] [4] (fun e13=>([],[(3,.cells 57 [zJ .u16 e2.dot.dev,zJ .u64 e2.dot.n,zJ .u8 e2.kind,zJ .u64 e2.cid,zJ .u8 e2.field,.d (.v (.string e2.text)),zZ DT.e e13])])) (fun h=>?_) ?_
   ·refine zE h (fun h=>?_) fun h=>?_
    ·refine uU [2,3,4] [2,3,4] ?_;refine PWc.regionE [⟨[26],[],[2],[],[],[],[],[]⟩,{ws:=[27]},zt [28] [3],⟨[29],[],[3],[],[],[],[],[]⟩,zt [30] [3],⟨[31],[],[3],[],[],[],[],[]⟩,{ws:=[32]},zt [33] [3],⟨[],[3],[3],[],[],[],[],[]⟩] (by kernel_rfl) (by kernel_rfl) rfl ?_;refine h5 ?_;obtain⟨v15,hy16,h⟩:=zP h;refine kp (fun _ U W=>cN (PRow.fun (Wp hy16)) U call53 (xY (fun a b=>U a b) rfl rfl) rfl rfl rfl) ?_;refine vV ?_;obtain⟨v17,hy18,h⟩:=zP h;refine kp (fun _ U W=>cN (ypa hy18) U call67 (xY (fun a b=>U a b) rfl rfl) rfl rfl rfl) ?_;refine h5 ?_;refine ks (fun _ U W=>sB (ns:=[_,_,_,_,_,_,_]) sizeOf55 U U rfl rfl (W rfl rfl) rfl rfl)<|PQe.nil ?_;exact⟨v17,(),h,sP⟩
    ·refine g5 ?_;exact⟨v11,(),h,sP⟩
   ·rintro e13 _ h;refine zl ?_;refine zE h (fun h=>?_) fun h=>?_
    ·refine zC ?_;refine ws (LR.build (ns:=[_,_,_,_,_,_,_]) qu rfl rfl rfl) ?_;refine zL ?_;refine wX ?_;cases h;exact⟨.inr rfl,_,.cons (.agg isAgg57 sizeOf57 rfl rfl rfl rfl)<|.cons (.tmp rfl rfl)<|.nil,rfl⟩
    ·refine zm ?_;refine wX ?_;cases h;exact⟨.inr rfl,_,.cons (.agg isAgg57 sizeOf57 rfl rfl rfl rfl)<|.cons (.tmp rfl rfl)<|.nil,rfl⟩
theorem wda{b1 c2 r0}(h:(QC b1 c2).wp (·=r0)):PFun prog 26 [.agg (List.map .d (RB.e b1)),zZ PT.e c2] (.agg (List.map .d (RB.e r0))):=by
 refine yB [0,1] func26 ntmps26 ?_;intro ctx hK;refine zV ?_;refine uU [1,2,4] [2,4] ?_;refine PWc.regionE [zt [5] [2],⟨[6],[],[2],[],[],[],[],[]⟩,{ws:=[7]},{ws:=[8]},zt [9] [2],⟨[10],[],[2],[],[],[],[],[]⟩,{ws:=[11]},⟨[],[4],[4],[],[],[],[],[]⟩] (by kernel_rfl) (by kernel_rfl) rfl ?_;refine yU ?_;obtain⟨v3,hy4,h⟩:=zP h;refine kp (fun _ U W=>cN (PRow.fun (Wn hy4)) U call62 (xY (fun a b=>U a b) rfl rfl) rfl rfl rfl) ?_;refine zy ?_;refine kp (fun _ U W=>LR.build (ns:=[_,_]) yXa rfl (w4a (fun a b=>U a b) rfl rfl) rfl) ?_;refine ks (fun _ U W=>sB (ns:=[_,_]) sizeOf30 U U rfl rfl (W rfl rfl) rfl rfl)<|PQe.nil<|wX ?_;cases h;exact⟨.inr rfl,_,.cons (.agg isAgg30 sizeOf30 rfl rfl rfl rfl)<|.nil,rfl⟩
theorem zqa{e1 c2 r0}(h:(Vb e1 c2).wp (·=r0)):PFun prog 68 [.agg (List.map .d (EV.e e1)),zZ PT.e c2] (.agg (List.map .d (EV.e r0))):=by
 refine yB [0,1] func68 ntmps68 ?_;intro ctx hK;refine vQ ?_;obtain⟨v3,hy4,h⟩:=zP h;refine xN (YK hy4) call51 ?_;refine g5 ?_;refine yN (zK h) 11 [2,4] [4] (fun e5=>([],[(2,.cells 57 [zJ .u16 e1.dot.dev,zJ .u64 e1.dot.n,zJ .u8 e1.kind,zJ .u64 e1.cid,zJ .u8 e1.field,.d (.v (.string e1.text)),zZ DT.e e5])])) (fun h=>?_) ?_
 ·refine zE h (fun h=>?_) fun h=>?_
  ·refine zL ?_;refine PWl.sub (Sub.nilCell (id:=2) (j:=6) rfl rfl) ?_;refine g5 ?_;exact⟨([]:List DT),(),h,sP⟩
  ·refine g5 ?_;exact⟨e1.kills,(),h,sP⟩
 ·rintro e5 _ h;refine zF ?_;refine wX ?_;cases h;exact⟨.inr rfl,_,.cons (.agg isAgg57 sizeOf57 rfl rfl rfl rfl)<|.nil,rfl⟩
theorem zra{b1 c2 r0}(h:(Vc b1 c2).wp (·=r0)):PFun prog 27 [.agg (List.map .d (RB.e b1)),zZ PT.e c2] (.tup [.agg (List.map .d (RB.e r0.1)),zJ .i64 r0.2]):=by
 refine yB [0,1] func27 ntmps27 ?_;intro ctx hK;refine zl ?_;refine ws (aR 57 7 rfl) ?_;refine zV ?_;refine yN (zK h) 53 [2,4] [2,4] (fun l3=>([(6,.row 6 (l3.length))],[(6,.row 57 7 (List.map EV.e l3))])) (fun h=>?_) ?_
 ·refine g5 ?_;refine zc h 53 [1,2,4] [2,4] (fun⟨i38,l39⟩=>([(6,.row 6 (l39.length)),(7,zJ .i64 i38)],[(6,.row 57 7 (List.map EV.e l39))])) ?_;rintro N ⟨i38,l39⟩ _ h;refine xV ?_;refine zE h (fun h=>?_) fun h=>?_
  ·refine zC ?_;refine yN (zK h) 53 [1,2,4,7] [2,4] (fun l41=>([(6,.row 6 (l41.length))],[(6,.row 57 7 (List.map EV.e l41))])) (fun h=>?_) ?_
   ·refine zC ?_;refine yN (zK h) 53 [1,2,4,6,7] [2,4,6] (fun v42=>([(32,.d (.v (.bool v42)))],[])) (fun h=>?_) ?_
    ·refine zH ?_;obtain⟨x43,hy44,h⟩:=yF h;refine yZ hy44 ?_;refine zH ?_;refine yH 22 h (fun h=>?_) fun h=>?_
     ·refine zC ?_;refine yL [1,2,4,6,7,22,23,24] [2,4,6] ?_;refine xV ?_;exact⟨true,(),h,sP⟩
     ·refine zC ?_;refine yL [1,2,4,6,7,22,23,24] [2,4,6] ?_;refine zC ?_;obtain⟨x46,hy47,h⟩:=yF h;refine XG hy47 ?_;refine zC ?_;obtain⟨v48,hy49,h⟩:=zP h;refine wt (cN (YK hy49) rfl call51 rfl rfl rfl rfl) ?_;refine zL ?_;exact⟨(!v48),(),h,sP⟩
    ·rintro v42 _ h;refine zE h (fun h=>?_) fun h=>?_
     ·refine zF ?_;obtain⟨x51,hy52,h⟩:=yF h;refine yZ hy52 ?_;refine zC ?_;obtain⟨v53,hy54,h⟩:=zP h;refine xN (zqa hy54) call68<|ws (LR.buildSliceD [.tmp 40] yh rfl rfl (.cons rfl rfl rfl<|.nil) (by decide) (by decide)) ?_;obtain⟨hy55,h⟩:=zq h;refine ws (LR.appT (enc:=EV.e) (L:=l39) (R:=[v53]) [6,33] yh underlying28 rfl rfl rfl (Src.slT (enc:=EV.e) (R:=[v53]) rfl (fun _=>rfl)) (fun _=>rfl) hy55 rfl rfl) ?_;refine zC ?_;exact⟨(l39++[v53]),(),h,sP⟩
     ·refine g5 ?_;exact⟨l39,(),h,sP⟩
   ·rintro l41 _ h;refine zF ?_;exact⟨((IntKind.i64.wrap (i38+1)),l41),(),h,sP⟩
  ·refine wZ ?_;exact⟨l39,(),h,sP⟩
 ·rintro l3 _ h;refine g5 ?_;refine uU [2,4,6] [2,4,6] ?_;refine PWc.frz [6] hK (.cons rfl<|.nil) rfl (by simp) ?_;refine PWc.regionE [zt [43] [2],⟨[44],[],[2],[],[],[],[],[]⟩,{ws:=[45]},{ws:=[46]},zt [47] [2],⟨[48],[],[2],[],[],[],[],[]⟩,{ws:=[49]},{ws:=[50]},{ws:=[51]},{ws:=[52]},⟨[],[4],[4],[],[],[],[],[]⟩,{ws:=[5]}] (by kernel_rfl) (by kernel_rfl) rfl ?_;refine yU ?_;refine kp (fun _ U W=>LR.build (ns:=[_,_]) yXa rfl (w4a (fun a b=>U a b) rfl rfl) rfl) ?_;refine zy ?_;refine kp (fun _ U W=>lM (enc:=EV.e) (L:=b1.l) underlying28 U) ?_;refine h5 ?_;refine kp (fun _ U W=>lM (enc:=EV.e) (L:=l3) underlying28 U) ?_;refine h5 ?_;refine ks (fun _ U W=>sB (ns:=[_,_]) sizeOf30 U U rfl rfl (W rfl rfl) rfl rfl) ?_;refine h5 ?_;refine PQe.nil<|wX ?_;cases h;exact⟨.inr rfl,_,.cons (.agg isAgg30 sizeOf30 rfl rfl rfl rfl)<|.cons (.tmp rfl rfl)<|.nil,rfl⟩
theorem vxa{l1 r0}(h:(xaa l1).wp (·=r0)):PFun prog 7 [zZ LA.e l1] (.agg (List.map .d (RB.e r0))):=by
 refine yB [0] func7 ntmps7 ?_;intro ctx hK;refine vn ?_;refine yN (zK h) 60 [2,3] [2] (fun⟨x2,x3⟩=>([],[(3,.cells 30 [zZ PT.e x2,zZ EV.e x3])])) (fun h=>?_) ?_
 ·refine g5 ?_;refine zc h 60 [0,2,3] [2] (fun⟨i45,x46,x47⟩=>([(4,zJ .i64 i45)],[(3,.cells 30 [zZ PT.e x46,zZ EV.e x47])])) ?_;rintro N ⟨i45,x46,x47⟩ _ h;refine zl ?_;refine zE h (fun h=>?_) fun h=>?_
  ·refine zC ?_;refine yN (zK h) 60 [0,2,3,4] [2] (fun⟨x49,x50⟩=>([],[(3,.cells 30 [zZ PT.e x49,zZ EV.e x50])])) (fun h=>?_) ?_
   ·refine zF ?_;obtain⟨x51,hy52,h⟩:=yF h;refine yZ hy52 ?_;refine gs15A6 ?_;refine zE h (fun h=>?_) fun h=>?_
    ·refine zH ?_;obtain⟨v54,hy55,h⟩:=zP h;refine xN (qJ hy55) call24<|yL [0,2,3,4,26] [2,3] ?_;refine zF ?_;exact⟨(v54.1.ctx,v54.1.l),(),h,sP⟩
    ·refine zF ?_;refine zE h (fun h=>?_) fun h=>?_
     ·refine zH ?_;refine yL [0,2,3,4,32,33] [2,3,5] ?_;refine g5 ?_;obtain⟨v57,hy58,h⟩:=zP h;refine xN (yqa hy58) call25 ?_;refine xl ?_;obtain⟨v59,hy60,h⟩:=zP h;refine xN (qJ hy60) call24 ?_;refine zF ?_;exact⟨(v59.1.ctx,v59.1.l),(),h,sP⟩
     ·refine zF ?_;refine zE h (fun h=>?_) fun h=>?_
      ·refine g5 ?_;refine yL [0,2,3,4,5] [2,3,5] ?_;refine zL ?_;obtain⟨v62,hy63,h⟩:=zP h;refine xN (wda hy63) call26 ?_;refine zC ?_;exact⟨(v62.ctx,v62.l),(),h,sP⟩
      ·refine zC ?_;refine yL [0,2,3,4,5,19] [2,3,5] ?_;refine zL ?_;refine zE h (fun h=>?_) fun h=>?_
       ·refine zH ?_;obtain⟨v65,hy66,h⟩:=zP h;refine xN (zra hy66) call27 ?_;refine zF ?_;exact⟨(v65.1.ctx,v65.1.l),(),h,sP⟩
       ·refine g5 ?_;exact⟨(x46,x47),(),h,sP⟩
   ·rintro⟨x49,x50⟩ _ h;refine zF ?_;exact⟨((IntKind.i64.wrap (i45+1)),x49,x50),(),h,sP⟩
  ·refine wZ ?_;exact⟨(x46,x47),(),h,sP⟩
 ·rintro⟨x2,x3⟩ _ h;refine zF ?_;refine wX ?_;cases h;exact⟨.inr rfl,_,.cons (.agg isAgg30 sizeOf30 rfl rfl rfl rfl)<|.nil,rfl⟩
theorem ZP{c1 r0}(h:(uH c1).wp (·=r0)):PRow prog 9 [zZ PT.e c1] 62 2 (List.map PT.e r0):=by
 refine PRow.intro (sl:=[(0,_)]) func9 rfl ntmps9 rfl rfl ?_;intro ctx hK;refine zC ?_;refine ws (aR 62 2 rfl) ?_;refine zH ?_;obtain⟨v2,hy3,h⟩:=zP h;refine ws (LR.rowN (UQ hy3) rfl call36 rfl rfl rfl rfl)<|yL [0,3,4] [4] ?_;refine zC ?_;refine wX ?_;cases h;exact⟨.inr rfl,2,rfl,.inr ⟨4,_,rfl,(by simp),rfl⟩⟩
theorem zsa{a1 b2 r0}(h:(qA a1 b2).wp (·=r0)):PFun prog 52 [zZ PT.e a1,zZ PT.e b2] (.d (.v (.bool r0))):=by
 refine yB [0,1] func52 ntmps52 ?_;intro ctx hK;refine vn ?_;refine zE h (fun h=>?_) fun h=>?_
 ·refine zH ?_;refine wX ?_;cases h;exact xT
 ·refine zV ?_;refine vJ (zK h) 42 [] [] (fun _=>([],[])) (fun h=>?_) ?_
  ·refine g5 ?_;refine zc h 42 [0,1] [] (fun i33=>([(5,zJ .i64 i33)],[])) ?_;rintro N i33 _ h;refine zl ?_;refine zE h (fun h=>?_) fun h=>?_
   ·refine zH ?_;refine yN (zK h) 42 [0,1,5] [] (fun v35=>([(41,.d (.v (.bool v35)))],[])) (fun h=>?_) ?_
    ·refine g5 ?_;refine zy ?_;obtain⟨x36,hy37,h⟩:=yF h;refine xa hy37 ?_;refine vV ?_;obtain⟨x38,hy39,h⟩:=yF h;refine xa hy39 ?_;refine vV ?_;refine qy 28 h (fun h=>?_) fun h=>?_
     ·refine hs14A6 ?_;exact⟨true,(),h,sP⟩
     ·refine zy ?_;obtain⟨x41,hy42,h⟩:=yF h;refine VP hy42 ?_;refine vV ?_;obtain⟨x43,hy44,h⟩:=yF h;refine VP hy44 ?_;refine zy ?_;obtain⟨v45,hy46,h⟩:=zP h;refine qt (fun _ U W=>cN (vta hy46) U call100 (xY (fun a b=>U a b) rfl rfl) rfl rfl rfl) ?_;refine yU ?_;exact⟨(!v45),(),h,sP⟩
    ·rintro v35 _ h;refine zE h (fun h=>?_) fun h=>?_
     ·refine zH ?_;refine wX ?_;cases h;exact xT
     ·refine zV ?_;exact⟨(IntKind.i64.wrap (i33+1)),(),h,sP⟩
   ·refine wZ ?_;exact⟨(),(),h,sP⟩
  ·rintro _ _ h;refine zH ?_;refine wX ?_;cases h;exact xT
theorem jv{a1 b2 r0}(h:(Ve a1 b2).wp (·=r0)):PFun prog 48 [zZ PT.e a1,zZ PT.e b2] (.d (.v (.bool r0))):=by
 refine yB [0,1] func48 ntmps48 ?_;intro ctx hK;refine zm ?_;obtain⟨v3,hy4,h⟩:=zP h;refine ws (LR.rowN (ZP hy4) rfl call9 rfl rfl rfl rfl) ?_;refine g5 ?_;obtain⟨v5,hy6,h⟩:=zP h;refine ws (LR.rowN (ZP hy6) rfl call9 rfl rfl rfl rfl) ?_;obtain⟨v7,hy8,h⟩:=zP h;refine PWl.frz [6] hK (.cons rfl<|.nil) rfl (by simp) ?_;refine PWl.frz [8] hK (.cons rfl<|.nil) rfl (by simp) ?_;refine xN (zsa hy8) call52 ?_;refine zC ?_;refine wX ?_;cases h;exact xT
theorem yra{a1 b2 r0}(h:(Vf a1 b2).wp (·=r0)):PFun prog 130 [zZ DT.e a1,zZ DT.e b2] (.d (.v (.bool r0))):=by
 refine yB [0,1] func130 ntmps130 ?_;intro ctx hK;refine vn ?_;refine zE h (fun h=>?_) fun h=>?_
 ·refine zH ?_;refine wX ?_;cases h;exact xT
 ·refine zV ?_;refine vJ (zK h) 26 [] [] (fun _=>([],[])) (fun h=>?_) ?_
  ·refine g5 ?_;refine zc h 26 [0,1] [] (fun i17=>([(5,zJ .i64 i17)],[])) ?_;rintro N i17 _ h;refine zl ?_;refine zE h (fun h=>?_) fun h=>?_
   ·refine zF ?_;refine zy ?_;obtain⟨x19,hy20,h⟩:=yF h;refine xa hy20 ?_;refine yU ?_;obtain⟨x21,hy22,h⟩:=yF h;refine xa hy22 ?_;refine h5 ?_;refine qs (fun _ U W=>LR.neqAgg U U rfl rfl vTa) ?_;refine h5 ?_;refine zE h (fun h=>?_) fun h=>?_
    ·refine zH ?_;refine wX ?_;cases h;exact xT
    ·refine zV ?_;exact⟨(IntKind.i64.wrap (i17+1)),(),h,sP⟩
   ·refine wZ ?_;exact⟨(),(),h,sP⟩
  ·rintro _ _ h;refine zH ?_;refine wX ?_;cases h;exact xT
theorem ysa{a1 b2 r0}(h:(Ux a1 b2).wp (·=r0)):PFun prog 97 [.agg (List.map .d (EV.e a1)),.agg (List.map .d (EV.e b2))] (.d (.v (.bool r0))):=by
 refine yB [0,1] func97 ntmps97 ?_;intro ctx hK;refine zm ?_;refine yN (zK h) 45 [] [] (fun v3=>([(4,.d (.v (.bool v3)))],[])) (fun h=>?_) ?_
 ·refine zF ?_;refine ws (LR.eqlAgg rfl rfl rfl rfl vTa) ?_;refine g5 ?_;refine yH 10 h (fun h=>?_) fun h=>?_
  ·refine zm ?_;refine yH 17 h (fun h=>?_) fun h=>?_
   ·refine g5 ?_;refine yL [2,3,4,17,18] [2,3] ?_;refine zV ?_;refine yH 24 h (fun h=>?_) fun h=>?_
    ·refine zm ?_;refine yH 31 h (fun h=>?_) fun h=>?_
     ·refine g5 ?_;refine yL [2,3,4,31,32] [2,3] ?_;refine zV ?_;refine yH 38 h (fun h=>?_) fun h=>?_
      ·refine zH ?_;obtain⟨v9,hy10,h⟩:=zP h;refine wt (cN (yra hy10) rfl call130 rfl rfl rfl rfl) ?_;refine zL ?_;exact⟨v9,(),h,sP⟩
      ·refine zl ?_;exact⟨false,(),h,sP⟩
     ·refine g5 ?_;refine yL [2,3,4,31,32] [2,3] ?_;refine Jy ?_;exact⟨false,(),h,sP⟩
    ·refine xV ?_;refine yL [2,3,4,31,33] [2,3] ?_;refine vn ?_;exact⟨false,(),h,sP⟩
   ·refine g5 ?_;refine yL [2,3,4,17,18] [2,3] ?_;refine Jz ?_;refine yL [2,3,4,31,33,34] [2,3] ?_;refine Yu ?_;exact⟨false,(),h,sP⟩
  ·refine xV ?_;refine yL [2,3,4,17,19] [2,3] ?_;refine Jz ?_;refine yL [2,3,4,31,33,35] [2,3] ?_;refine vQ ?_;exact⟨false,(),h,sP⟩
 ·rintro v3 _ h;refine wX ?_;cases h;exact xT
theorem WI{a1 b2 r0}(h:(Wl a1 b2).wp (·=r0)):PFun prog 49 [zZ EV.e a1,zZ EV.e b2] (.d (.v (.bool r0))):=by
 refine yB [0,1] func49 ntmps49 ?_;intro ctx hK;refine vn ?_;refine zE h (fun h=>?_) fun h=>?_
 ·refine zH ?_;refine wX ?_;cases h;exact xT
 ·refine zV ?_;refine vJ (zK h) 27 [] [] (fun _=>([],[])) (fun h=>?_) ?_
  ·refine g5 ?_;refine zc h 27 [0,1] [] (fun i21=>([(5,zJ .i64 i21)],[])) ?_;rintro N i21 _ h;refine zl ?_;refine zE h (fun h=>?_) fun h=>?_
   ·refine zF ?_;refine zy ?_;obtain⟨x23,hy24,h⟩:=yF h;refine xa hy24 ?_;refine yU ?_;obtain⟨x25,hy26,h⟩:=yF h;refine xa hy26 ?_;refine h5 ?_;obtain⟨v27,hy28,h⟩:=zP h;refine qs (fun _ U W=>cN (ysa hy28) U call97 (xY (fun a b=>U a b) rfl rfl) rfl rfl rfl) ?_;refine zy ?_;refine zE h (fun h=>?_) fun h=>?_
    ·refine zH ?_;refine wX ?_;cases h;exact xT
    ·refine zV ?_;exact⟨(IntKind.i64.wrap (i21+1)),(),h,sP⟩
   ·refine wZ ?_;exact⟨(),(),h,sP⟩
  ·rintro _ _ h;refine zH ?_;refine wX ?_;cases h;exact xT
end Go.Proofs
