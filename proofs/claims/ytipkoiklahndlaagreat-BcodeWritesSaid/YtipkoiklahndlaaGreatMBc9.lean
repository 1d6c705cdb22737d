/- Texts that the walks and laws lean on, side by side. -/
import Derived.Test.YtipkoiklahndlaaGreatMBc2
import Derived.Test.YtipkoiklahndlaaGreatMBc3
import Derived.Test.YtipkoiklahndlaaGreatMBc4
import Derived.Test.YtipkoiklahndlaaGreatMBc5
import Derived.Test.YtipkoiklahndlaaGreatMBc6
import Derived.Test.YtipkoiklahndlaaGreatMBc7
import Derived.Test.YtipkoiklahndlaaGreatMBc8
set_option linter.unusedVariables false
set_option linter.unusedSimpArgs false
namespace Go.Proofs
open Go.Ep Tryz
set_option maxHeartbeats 1000000
set_option maxRecDepth 100000
set_option linter.unusedVariables false
set_option linter.unusedSimpArgs false


theorem JE (b1:R18Book) (r0:List Int) (h:(YX b1).wp (· = r0)):PFun prog 18 [.agg (List.map .d (R18Book.e b1))] (.d (.sl (List.map (eK .u8) r0))):=by
 refine fI (sl:=[(0,_)]) func18 rfl ntmps18 rfl rfl ?_;intro ctx hK;refine wQ<|wR<|ws (LR.box rfl rfl rfl rfl)<|ws (aR 5 1 rfl)<|wN<|wQ<|wD (by kernel_rfl) (by kernel_rfl) ?_;refine qs (fun _ he ho=>fR underlying32 rfl sizeOf23 (by decide) rfl (he rfl rfl)) ?_;refine qs (fun _ he ho=>lD isAgg23 (he rfl rfl) (ho rfl) rfl) ?_;obtain ⟨v2,hy3,h⟩:=iDet h;refine qs (fun _ he ho=>cN (ZE ([]:List Int) b1.ctx v2 hy3) (he rfl rfl) call66 (evsE he rfl rfl) rfl rfl rfl) ?_;refine qs (fun _ he ho=>fR underlying32 rfl sizeOf24 (by decide) rfl (he rfl rfl)) ?_;refine qs (fun _ he ho=>lD isAgg24 (he rfl rfl) (ho rfl) rfl) ?_;obtain ⟨v4,hy5,h⟩:=iDet h;refine qs (fun _ he ho=>cN (Xq v2 b1.l v4 hy5) (he rfl rfl) call65 (evsE he rfl rfl) rfl rfl rfl) ?_;refine qs (fun _ he ho=>aS (he rfl rfl))<|qN<|wX ?_;cases h;exact ⟨.inr rfl,_,.cons (.tmp rfl rfl)<|.nil,rfl⟩

theorem vT (e1:TEvent) (nl2:Bool) (m3:List (TDot × TEvent)) (r0:Bool × (List (TDot × TEvent))) (h:(wI e1 nl2 m3).wp (· = r0)):PObj prog 58 [.mp 100,.agg (List.map .d (TEvent.e e1))] [(100,.mapH nl2 [.u16,.u64] true (encM TDot.k TEvent.e m3))] [] (.mp 100) (fun _:Unit=>[(100,.mapH r0.1 [.u16,.u64] true (encM TDot.k TEvent.e r0.2))]):=by
 refine PObj.intro (sl:=[(0,_),(1,_)]) func58 rfl ntmps58 rfl rfl rfl ?_;intro ctx hK pv;refine wQ<|wR<|ws (LR.box rfl rfl rfl rfl)<|wa ?_;refine wN<|wQ<|wQ<|wR<|wm ?_;refine ws (LR.eqlH underlying96 rfl rfl)<|wN ?_;refine wJ (zG h) (fun (v4:List (TDot × TEvent)) (⟨bs5,ck6⟩:List Nat × Nat)=>⟨14,[(0,.mp 100),(3,.ref 3 0)],[(3,.cells 69 [.d (.v (.int .u16 e1.dot.dev)),.d (.v (.int .u64 e1.dot.n)),.d (.v (.int .u8 e1.kind)),.d (.v (.int .u64 e1.cid)),.d (.v (.int .u8 e1.field)),.d (.v (.string e1.text)),.d (.sl (List.map TDot.e e1.kills))]),(100,.map [.u16,.u64] true (encM TDot.k TEvent.e v4) bs5 ck6)]⟩) (fun h=>?_) ?_
 ·refine wC rfl (fun hc7=>?_) (fun hc7=>?_)
  ·replace h:=iT hc7 h;refine PWc.sub (Sub.hT (id:=100) rfl hc7)<|wR<|ws (LR.makeMap [.u16,.u64] true rfl)<|wa ?_;refine wy (tl:=[(0,_),(1,_),(3,_),(4,_),(6,_)]) (to:=[(3,_),(7,_),(100,_)]) ?_;refine PWl.sub (Sub.moveMap (id1:=100) (id2:=7) (j:=0) rfl rfl rfl rfl)<|wN ?_;exact ⟨([]:List (TDot × TEvent)),([],0),h,sP⟩
  ·replace h:=iF hc7 h;refine PWc.hF (id:=100) rfl hc7 (fun bs8 ck8=>?_);refine wK ?_;exact ⟨m3,(bs8,ck8),h,sP⟩
 ·rintro v4 ⟨bs5,ck6⟩ h;refine wQ<|wz (tl:=[(0,_),(3,_)]) (to:=[(3,_),(100,_)]) ?_;refine PWc.regionE [⟨[8],[],[],[],[],[100],[],[]⟩,⟨[9],[],[],[],[],[3],[],[]⟩,⟨[10],[],[3],[],[],[],[],[]⟩,⟨[11],[],[3],[],[],[],[],[]⟩,{ws:=[12]},⟨[],[100],[100],[],[],[],[],[]⟩] (by kernel_rfl) (by kernel_rfl) rfl ?_;refine kp (fun _ he ho=>mV (he rfl rfl)) ?_;refine kp (fun _ he ho=>fR underlying69 rfl sizeOf66 (by decide) rfl (he rfl rfl)) ?_;refine kp (fun _ he ho=>lA (ps:=[_,_]) isAgg66 sizeOf66 (he rfl rfl) (ho rfl rfl) rfl rfl) ?_;refine kp (fun _ he ho=>lA (ps:=[_,_,_,_,_,_,_]) isAgg69 sizeOf69 (he rfl rfl) (ho rfl rfl) rfl rfl) ?_;obtain ⟨v9,hy10,h⟩:=iDet h;refine kp (fun _ he ho=>cN (ZC e1 v9 hy10) (he rfl rfl) call123 (evsE he rfl rfl) rfl rfl rfl) ?_;refine ks (fun _ he ho=>LR.setM (eV:=TEvent.e) (q:=e1.dot) (v:=v9) (m:=v4) TDot.k_inj underlying96 key96 (he rfl rfl) (ho rfl rfl) (he rfl rfl) rfl rfl (he rfl rfl) rfl (fun h=>by cases h)) ?_;refine PQe.nil<|wQ<|wR<|wm ?_;refine wa ?_;refine wN<|wX ?_;cases h;exact EndsO.mk () (.inr rfl) (Sub.trans (Sub.toH (id:=100) rfl)<|sP (tl:=[(4,_)]) (to:=[(100,_)])) (.cons (.tmp rfl)<|.nil) rfl rfl

theorem Yq (c1:List TPart) (l2:List TEvent) (r0:Unit ⊕ (List TPart × Bool × (List (TDot × TEvent)) × Bool × (List (TDot × TEvent)))) (h:(yz c1 l2).wp (· = r0)):(match r0 with | .inl r0=>PObj prog 11 [.d (.sl (List.map TPart.e c1)),.d (.sl (List.map TEvent.e l2))] [] [] (.tup [.d (.v (.pointer none)),.d (.v (.int .i64 1))]) (fun _:Unit=>[]) | .inr r0=>PObj prog 11 [.d (.sl (List.map TPart.e c1)),.d (.sl (List.map TEvent.e l2))] [] [] (.tup [.ref 12 0,.d (.v (.int .i64 0))]) (fun _:Unit=>[(12,.cells 98 [.d (.sl (List.map TPart.e r0.1)),.mp 30241,.mp 30242]),(30241,.mapH r0.2.1 [.u16,.u64] true (encM TDot.k TEvent.e r0.2.2.1)),(30242,.mapH r0.2.2.2.1 [.u16,.u64] true (encM TDot.k TEvent.e r0.2.2.2.2))])):=by
 cases r0 with
 | inl r0=>
  refine PObj.intro (sl:=[(0,_),(1,_)]) func11 rfl ntmps11 rfl rfl rfl ?_;intro ctx hK pv;refine wQ<|wR<|wa ?_;refine wa ?_;refine wN<|wQ<|wR<|wm ?_;obtain ⟨v3,hy4,h⟩:=iDet h;refine ws (LR.rowN (vl c1 v3 hy4) rfl call54 rfl rfl rfl rfl)<|PWl.frz [10] hK (.cons rfl<|.nil) rfl (by simp) ?_;refine ws (LR.buildR (ns:=[_,_,_]) QI rfl rfl rfl)<|ws (LR.box rfl rfl rfl rfl)<|PWl.sub (Sub.ownMap (id:=12) (j:=1) (id':=30241) (ks:=[.u16,.u64]) (ag:=true) (ck:=0) rfl rfl rfl rfl)<|PWl.sub (Sub.ownMap (id:=12) (j:=2) (id':=30242) (ks:=[.u16,.u64]) (ag:=true) (ck:=0) rfl rfl rfl rfl)<|wy (tl:=[(0,_),(1,_),(12,_)]) (to:=[(12,_),(30241,_),(30242,_)]) ?_;refine wa ?_;refine wN<|wQ<|wQ<|wR<|wm ?_;refine ws (lM (enc:=TEvent.e) (L:=l2) underlying24 rfl)<|wm ?_;refine wN ?_;refine PWc.jnX (zG h) (fun (⟨nl5,v6,nl7,v8⟩:Bool × (List (TDot × TEvent)) × Bool × (List (TDot × TEvent))) (_:Unit)=>⟨84,[(0,.d (.sl (List.map TPart.e c1))),(1,.d (.sl (List.map TEvent.e l2))),(6,.ref 12 0)],[(12,.cells 98 [.d (.sl (List.map TPart.e v3)),.mp 30241,.mp 30242]),(30241,.mapH nl7 [.u16,.u64] true (encM TDot.k TEvent.e v8)),(30242,.mapH nl5 [.u16,.u64] true (encM TDot.k TEvent.e v6))]⟩) (fun h=>?_) ?_
  ·refine wB<|wM (fun (⟨v72,nl73,v74,nl75,v76⟩:Int × Bool × (List (TDot × TEvent)) × Bool × (List (TDot × TEvent))) (_:Unit)=>⟨84,[(0,.d (.sl (List.map TPart.e c1))),(1,.d (.sl (List.map TEvent.e l2))),(6,.ref 12 0),(13,.d (.sl (List.map TEvent.e l2))),(14,.d (.v (.int .i64 (List.length l2:Int)))),(15,.d (.v (.int .i64 v72)))],[(12,.cells 98 [.d (.sl (List.map TPart.e v3)),.mp 30241,.mp 30242]),(30241,.mapH nl75 [.u16,.u64] true (encM TDot.k TEvent.e v76)),(30242,.mapH nl73 [.u16,.u64] true (encM TDot.k TEvent.e v74))]⟩) () h (Sub.trans (Sub.nToH (id:=30241) rfl)<|Sub.trans (Sub.nToH (id:=30242) rfl)<|sP) ?_;rintro N ⟨v72,nl73,v74,nl75,v76⟩ _ h;refine wQ<|wR<|ws (LR.lss rfl rfl)<|wN<|wQ ?_;refine wC rfl (fun hc77=>?_) (fun hc77=>?_)
   ·replace h:=iT hc77 h;refine wK<|wQ ?_;refine PWc.jnX (zG h) (fun (⟨nl78,v79,nl80,v81⟩:Bool × (List (TDot × TEvent)) × Bool × (List (TDot × TEvent))) (_:Unit)=>⟨84,[(0,.d (.sl (List.map TPart.e c1))),(1,.d (.sl (List.map TEvent.e l2))),(6,.ref 12 0),(13,.d (.sl (List.map TEvent.e l2))),(14,.d (.v (.int .i64 (List.length l2:Int)))),(15,.d (.v (.int .i64 v72)))],[(12,.cells 98 [.d (.sl (List.map TPart.e v3)),.mp 30241,.mp 30242]),(30241,.mapH nl80 [.u16,.u64] true (encM TDot.k TEvent.e v81)),(30242,.mapH nl78 [.u16,.u64] true (encM TDot.k TEvent.e v79))]⟩) (fun h=>?_) ?_
    ·refine wB<|wQ<|wR<|wm ?_;obtain ⟨x82,hy83,h⟩:=iIdx h;refine ws (iX (enc:=TEvent.e) (L:=l2) (y:=x82) underlying24 sizeOf69 rfl rfl hy83 (fun _=>rfl))<|ws (lE (ys:=[_,_,_,_,_,_,_]) isAgg69 sizeOf69 rfl rfl rfl)<|ws (LR.allocZ (cs:=[_,_,_,_,_,_,_]) zeroValue69 rfl rfl rfl rfl)<|wa ?_;refine ws (sB (ns:=[_,_,_,_,_,_,_]) sizeOf69 rfl rfl rfl rfl rfl rfl rfl)<|wN<|wQ<|wQ ?_;refine wJ (zG h) (fun (v84:Bool) (_:Unit)=>⟨84,[(0,.d (.sl (List.map TPart.e c1))),(1,.d (.sl (List.map TEvent.e l2))),(6,.ref 12 0),(8,.ref 8 0),(13,.d (.sl (List.map TEvent.e l2))),(14,.d (.v (.int .i64 (List.length l2:Int)))),(15,.d (.v (.int .i64 v72))),(49,.d (.v (.bool v84)))],[(8,.cells 69 [.d (.v (.int .u16 x82.dot.dev)),.d (.v (.int .u64 x82.dot.n)),.d (.v (.int .u8 x82.kind)),.d (.v (.int .u64 x82.cid)),.d (.v (.int .u8 x82.field)),.d (.v (.string x82.text)),.d (.sl (List.map TDot.e x82.kills))]),(12,.cells 98 [.d (.sl (List.map TPart.e v3)),.mp 30241,.mp 30242]),(30241,.mapH nl75 [.u16,.u64] true (encM TDot.k TEvent.e v76)),(30242,.mapH nl73 [.u16,.u64] true (encM TDot.k TEvent.e v74))]⟩) (fun h=>?_) ?_
     ·refine wD (by kernel_rfl) (by kernel_rfl) ?_;refine qs (fun _ he ho=>lA (ps:=[_,_,_,_,_,_,_]) isAgg69 sizeOf69 (he rfl rfl) (ho rfl) rfl rfl) ?_;obtain ⟨v85,hy86,h⟩:=iDet h;refine qs (fun _ he ho=>cN (Xm x82 v85 hy86) (he rfl rfl) call55 (evsE he rfl rfl) rfl rfl rfl) ?_;refine qs (fun _ he ho=>LR.not (he rfl rfl)) ?_;refine qs (fun _ he ho=>mV (he rfl rfl)) ?_;refine PQl.split (d:=23) rfl (fun hg87=>?_) (fun hg87=>?_)
      ·replace h:=iT hg87 h;refine kF<|kF<|kF<|kU<|kU<|kU<|kU<|kU<|kU ?_;refine kU<|kU<|kU<|kU<|kF ?_;refine qs (fun _ he ho=>pT (he rfl rfl) (he rfl rfl)) ?_;refine qs (fun _ he ho=>mV (he rfl rfl))<|kF<|kF<|kF<|kF<|kK (tl:=[(0,_),(1,_),(6,_),(8,_),(13,_),(14,_),(15,_),(24,_),(25,_),(26,_),(27,_),(28,_),(29,_),(30,_),(31,_),(32,_),(33,_),(34,_),(35,_),(36,_),(37,_),(39,_),(40,_),(41,_),(42,_),(43,_)]) ?_;refine kU<|kU<|kU<|kU<|kF ?_;refine qs (fun _ he ho=>pT (he rfl rfl) (he rfl rfl))<|qN ?_;exact ⟨true,(),h,sP⟩
      ·replace h:=iF hg87 h;refine qt (fun _ he ho=>mV (he rfl rfl)) ?_;refine qt (fun _ he ho=>LR.gtr (he rfl rfl) (he rfl rfl)) ?_;refine qt (fun _ he ho=>mV (he rfl rfl)) ?_;refine PQl.split (d:=26) rfl (fun hg88=>?_) (fun hg88=>?_)
       ·replace h:=iT hg88 h;refine qt (fun _ he ho=>mV (he rfl rfl)) ?_;refine qt (fun _ he ho=>mV (he rfl rfl)) ?_;refine qt (fun _ he ho=>LR.subW (he rfl rfl) (he rfl rfl)) ?_;obtain ⟨x89,hy90,h⟩:=iIdx h;refine qt (fun _ he ho=>iX (enc:=TEvent.e) (L:=l2) (y:=x89) underlying24 sizeOf69 (he rfl rfl) (he rfl rfl) hy90 (fun _=>rfl)) ?_;refine qt (fun _ he ho=>fE underlying69 rfl sizeOf66 (by decide) rfl (he rfl rfl)) ?_;refine qt (fun _ he ho=>lE (ys:=[_,_]) isAgg66 sizeOf66 (he rfl rfl) rfl rfl) ?_;refine qt (fun _ he ho=>fR underlying69 rfl sizeOf66 (by decide) rfl (he rfl rfl)) ?_;refine qt (fun _ he ho=>lA (ps:=[_,_]) isAgg66 sizeOf66 (he rfl rfl) (ho rfl) rfl rfl) ?_;obtain ⟨v91,hy92,h⟩:=iDet h;refine qt (fun _ he ho=>cN (WR x89.dot x82.dot v91 hy92) (he rfl rfl) call56 (evsE he rfl rfl) rfl rfl rfl) ?_;refine qt (fun _ he ho=>LR.geq (he rfl rfl) (he rfl rfl)) ?_;refine qt (fun _ he ho=>pT (he rfl rfl) (he rfl rfl)) ?_;refine qs (fun _ he ho=>pF (he rfl rfl) (he rfl rfl)) ?_;refine qs (fun _ he ho=>mV (he rfl rfl)) ?_;refine PQl.split (d:=39) rfl (fun hg93=>?_) (fun hg93=>?_)
        ·replace h:=iT hg93 h;refine kF<|kF<|kK (tl:=[(0,_),(1,_),(6,_),(8,_),(13,_),(14,_),(15,_),(24,_),(25,_),(26,_),(27,_),(28,_),(29,_),(30,_),(31,_),(32,_),(33,_),(34,_),(35,_),(36,_),(37,_),(39,_),(40,_),(41,_)]) ?_;refine kF<|kF<|kU<|kU<|kU<|kU<|kF ?_;refine qs (fun _ he ho=>pT (he rfl rfl) (he rfl rfl))<|qN ?_;exact ⟨true,(),h,sP⟩
        ·replace h:=iF hg93 h;refine qt (fun _ he ho=>fR underlying69 rfl sizeOf5 (by decide) rfl (he rfl rfl)) ?_;refine qt (fun _ he ho=>lD isAgg5 (he rfl rfl) (ho rfl) rfl)<|kK (tl:=[(0,_),(1,_),(6,_),(8,_),(13,_),(14,_),(15,_),(24,_),(25,_),(26,_),(27,_),(28,_),(29,_),(30,_),(31,_),(32,_),(33,_),(34,_),(35,_),(36,_),(37,_),(39,_),(40,_),(41,_)]) ?_;refine qt (fun _ he ho=>eQ (he rfl rfl) (he rfl rfl)) ?_;refine qt (fun _ he ho=>mV (he rfl rfl)) ?_;refine PQl.split (d:=43) rfl (fun hg94=>?_) (fun hg94=>?_)
         ·replace h:=iT hg94 h;refine qt (fun _ he ho=>mV (he rfl rfl)) ?_;refine qt (fun _ he ho=>fR underlying69 rfl sizeOf66 (by decide) rfl (he rfl rfl)) ?_;refine qt (fun _ he ho=>lA (ps:=[_,_]) isAgg66 sizeOf66 (he rfl rfl) (ho rfl) rfl rfl) ?_;obtain ⟨v95,hy96,h⟩:=iDet h;refine qt (fun _ he ho=>cN (vS l2 x82.dot v95 hy96) (he rfl rfl) call57 (evsE he rfl rfl) rfl rfl rfl) ?_;refine qt (fun _ he ho=>pT (he rfl rfl) (he rfl rfl)) ?_;refine qs (fun _ he ho=>pF (he rfl rfl) (he rfl rfl))<|qN ?_;exact ⟨v95,(),h,sP⟩
         ·replace h:=iF hg94 h;refine kF<|kF<|kF<|kF ?_;refine qt (fun _ he ho=>pF (he rfl rfl) (he rfl rfl)) ?_;refine qs (fun _ he ho=>pF (he rfl rfl) (he rfl rfl))<|qN ?_;exact ⟨false,(),h,sP⟩
       ·replace h:=iF hg88 h;refine kF<|kF<|kF<|kF<|kF<|kF<|kF<|kF<|kF ?_;refine kF ?_;refine qt (fun _ he ho=>pF (he rfl rfl) (he rfl rfl)) ?_;refine qs (fun _ he ho=>pF (he rfl rfl) (he rfl rfl)) ?_;refine qs (fun _ he ho=>mV (he rfl rfl)) ?_;refine qt (fun _ he ho=>fR underlying69 rfl sizeOf5 (by decide) rfl (he rfl rfl)) ?_;refine qt (fun _ he ho=>lD isAgg5 (he rfl rfl) (ho rfl) rfl) ?_;refine qt (fun _ he ho=>eQ (he rfl rfl) (he rfl rfl))<|kK (tl:=[(0,_),(1,_),(6,_),(8,_),(13,_),(14,_),(15,_),(24,_),(25,_),(26,_),(27,_),(28,_),(29,_),(30,_),(31,_),(32,_),(33,_),(34,_),(35,_),(36,_),(37,_),(39,_),(40,_),(41,_),(42,_)]) ?_;refine qt (fun _ he ho=>mV (he rfl rfl)) ?_;refine PQl.split (d:=43) rfl (fun hg97=>?_) (fun hg97=>?_)
        ·replace h:=iT hg97 h;refine qt (fun _ he ho=>mV (he rfl rfl)) ?_;refine qt (fun _ he ho=>fR underlying69 rfl sizeOf66 (by decide) rfl (he rfl rfl)) ?_;refine qt (fun _ he ho=>lA (ps:=[_,_]) isAgg66 sizeOf66 (he rfl rfl) (ho rfl) rfl rfl) ?_;obtain ⟨v98,hy99,h⟩:=iDet h;refine qt (fun _ he ho=>cN (vS l2 x82.dot v98 hy99) (he rfl rfl) call57 (evsE he rfl rfl) rfl rfl rfl) ?_;refine qt (fun _ he ho=>pT (he rfl rfl) (he rfl rfl)) ?_;refine qs (fun _ he ho=>pF (he rfl rfl) (he rfl rfl))<|qN ?_;exact ⟨v98,(),h,sP⟩
        ·replace h:=iF hg97 h;refine kF<|kF<|kF<|kF ?_;refine qt (fun _ he ho=>pF (he rfl rfl) (he rfl rfl)) ?_;refine qs (fun _ he ho=>pF (he rfl rfl) (he rfl rfl))<|qN ?_;exact ⟨false,(),h,sP⟩
     ·rintro v84 _ h;refine wC rfl (fun hc100=>?_) (fun hc100=>?_)
      ·replace h:=iT hc100 h;refine wQ<|wR<|wa ?_;refine wa ?_;refine wN<|wX ?_;replace h:(Sum.inl _:Unit ⊕ (List TPart × Bool × (List (TDot × TEvent)) × Bool × (List (TDot × TEvent)))) = Sum.inl r0:=h;replace h:=Sum.inl.inj h;subst h;exact EndsO.mk () (.inr rfl) (sP (tl:=[(4,_),(5,_)]) (to:=[])) (.cons (.tmp rfl)<|.cons (.tmp rfl)<|.nil) rfl rfl
      ·replace h:=iF hc100 h;refine wK<|wQ<|wR<|ws (fR underlying69 rfl sizeOf5 (by decide) rfl rfl)<|ws (lD isAgg5 rfl rfl rfl)<|ws (eQ rfl rfl)<|wN ?_;refine wC rfl (fun hc101=>?_) (fun hc101=>?_)
       ·replace h:=iT hc101 h;refine wz (tl:=[(0,_),(1,_),(6,_),(8,_),(13,_),(14,_),(15,_)]) (to:=[(8,_),(12,_),(30241,_),(30242,_)]) ?_;refine PWc.regionE [⟨[53],[],[],[],[],[12],[],[]⟩,⟨[54],[],[],[],[],[12],[],[]⟩,⟨[55],[],[],[],[],[12],[],[]⟩,⟨[56],[],[],[],[],[12],[],[]⟩,⟨[57],[],[12],[],[],[30241],[],[]⟩,⟨[58],[],[8],[],[],[],[],[]⟩,⟨[57,59],[12,30241],[12,30241,30242],[],[(30241,[57])],[30241],[30242],[12,30241,30242]⟩,⟨[60],[],[],[],[],[12],[],[]⟩,⟨[61],[],[],[],[],[12],[],[]⟩,⟨[],[12],[12,30241],[],[],[],[30241,30242],[]⟩] (by kernel_rfl) (by kernel_rfl) rfl ?_;refine kp (fun _ he ho=>mV (he rfl rfl)) ?_;refine kp (fun _ he ho=>mV (he rfl rfl)) ?_;refine kp (fun _ he ho=>LR.nilCheckRef (he rfl rfl)) ?_;refine kp (fun _ he ho=>fR underlying98 rfl sizeOf96 (by decide) rfl (he rfl rfl)) ?_;refine kp (fun _ he ho=>lD isAgg96 (he rfl rfl) (ho rfl rfl) rfl) ?_;refine kp (fun _ he ho=>lA (ps:=[_,_,_,_,_,_,_]) isAgg69 sizeOf69 (he rfl rfl) (ho rfl rfl) rfl rfl) ?_;obtain ⟨y102,hy103,h⟩:=iDet h;refine PQe.callObjS [(100,30241),(500,12),(501,30242)] [57] [100,500,501] [(100,.mapH y102.1 [.u16,.u64] true (encM TDot.k TEvent.e y102.2)),(500,.cells 98 [.d (.sl (List.map TPart.e v3)),.junk,.mp 501])] [(501,.mapH nl73 [.u16,.u64] true (encM TDot.k TEvent.e v74))] (PObj.frame [(500,.cells 98 [.d (.sl (List.map TPart.e v3)),.mp 100,.mp 501]),(501,.mapH nl73 [.u16,.u64] true (encM TDot.k TEvent.e v74))] [(500,.cells 98 [.d (.sl (List.map TPart.e v3)),.junk,.mp 501]),(501,.mapH nl73 [.u16,.u64] true (encM TDot.k TEvent.e v74))] (vT x82 nl75 v76 y102 hy103) (fun _=>rfl) (fun _=>rfl) rfl rfl (.cons (.cells (.keep rfl<|.junk<|.keep rfl<|.nil))<|.cons (.same rfl)<|.nil)) hK (fun _ he=>⟨he rfl rfl,evsE he rfl rfl⟩) call58 (by first | rfl | (simp;done) | (simp [PV.nilD,PV.ren,rn];omega)) (by repeat' first | constructor | (congr 1;first | (simp;done) | (simp;omega) | omega)) (.cons rfl<|.cons rfl<|.nil) (.cons rfl<|.nil) (.cons (by first | rfl | (congr 1;first | (simp;done) | (simp;omega) | omega))<|.nil) rfl rfl rfl rfl rfl rfl (.inl rfl) rfl ?_;refine kp (fun _ he ho=>LR.nilCheckRef (he rfl rfl)) ?_;refine kp (fun _ he ho=>fR underlying98 rfl sizeOf96 (by decide) rfl (he rfl rfl)) ?_;refine ks (fun _ he ho=>sB (ns:=[_,_,_]) sizeOf96 (he rfl rfl) (he rfl rfl) rfl rfl (ho rfl rfl) rfl rfl)<|PQe.nil ?_;exact ⟨(nl73,v74,y102.1,y102.2),(),h,sP⟩
       ·replace h:=iF hc101 h;refine wz (tl:=[(0,_),(1,_),(6,_),(8,_),(13,_),(14,_),(15,_)]) (to:=[(8,_),(12,_),(30241,_),(30242,_)]) ?_;refine PWc.regionE [⟨[62],[],[],[],[],[12],[],[]⟩,⟨[63],[],[],[],[],[12],[],[]⟩,⟨[64],[],[],[],[],[12],[],[]⟩,⟨[65],[],[],[],[],[12],[],[]⟩,⟨[66],[],[12],[],[],[30242],[],[]⟩,⟨[67],[],[8],[],[],[],[],[]⟩,⟨[66,68],[12,30242],[12,30241,30242],[],[(30242,[66])],[30242],[30241],[12,30241,30242]⟩,⟨[69],[],[],[],[],[12],[],[]⟩,⟨[70],[],[],[],[],[12],[],[]⟩,⟨[],[12],[12,30242],[],[],[],[30241,30242],[]⟩] (by kernel_rfl) (by kernel_rfl) rfl ?_;refine kp (fun _ he ho=>mV (he rfl rfl)) ?_;refine kp (fun _ he ho=>mV (he rfl rfl)) ?_;refine kp (fun _ he ho=>LR.nilCheckRef (he rfl rfl)) ?_;refine kp (fun _ he ho=>fR underlying98 rfl sizeOf96 (by decide) rfl (he rfl rfl)) ?_;refine kp (fun _ he ho=>lD isAgg96 (he rfl rfl) (ho rfl rfl) rfl) ?_;refine kp (fun _ he ho=>lA (ps:=[_,_,_,_,_,_,_]) isAgg69 sizeOf69 (he rfl rfl) (ho rfl rfl) rfl rfl) ?_;obtain ⟨y104,hy105,h⟩:=iDet h;refine PQe.callObjS [(100,30242),(500,12),(501,30241)] [66] [100,500,501] [(100,.mapH y104.1 [.u16,.u64] true (encM TDot.k TEvent.e y104.2)),(500,.cells 98 [.d (.sl (List.map TPart.e v3)),.mp 501,.junk])] [(501,.mapH nl75 [.u16,.u64] true (encM TDot.k TEvent.e v76))] (PObj.frame [(500,.cells 98 [.d (.sl (List.map TPart.e v3)),.mp 501,.mp 100]),(501,.mapH nl75 [.u16,.u64] true (encM TDot.k TEvent.e v76))] [(500,.cells 98 [.d (.sl (List.map TPart.e v3)),.mp 501,.junk]),(501,.mapH nl75 [.u16,.u64] true (encM TDot.k TEvent.e v76))] (vT x82 nl73 v74 y104 hy105) (fun _=>rfl) (fun _=>rfl) rfl rfl (.cons (.cells (.keep rfl<|.keep rfl<|.junk<|.nil))<|.cons (.same rfl)<|.nil)) hK (fun _ he=>⟨he rfl rfl,evsE he rfl rfl⟩) call58 (by first | rfl | (simp;done) | (simp [PV.nilD,PV.ren,rn];omega)) (by repeat' first | constructor | (congr 1;first | (simp;done) | (simp;omega) | omega)) (.cons rfl<|.cons rfl<|.nil) (.cons rfl<|.nil) (.cons (by first | rfl | (congr 1;first | (simp;done) | (simp;omega) | omega))<|.nil) rfl rfl rfl rfl rfl rfl (.inl rfl) rfl ?_;refine kp (fun _ he ho=>LR.nilCheckRef (he rfl rfl)) ?_;refine kp (fun _ he ho=>fR underlying98 rfl sizeOf96 (by decide) rfl (he rfl rfl)) ?_;refine ks (fun _ he ho=>sB (ns:=[_,_,_]) sizeOf96 (he rfl rfl) (he rfl rfl) rfl rfl (ho rfl rfl) rfl rfl)<|PQe.nil ?_;exact ⟨(y104.1,y104.2,nl75,v76),(),h,sP⟩
    ·rintro ⟨nl78,v79,nl80,v81⟩ _ h;refine wR<|ws (LR.addW rfl rfl)<|wm ?_;refine wN ?_;exact ⟨((IntKind.i64.wrap (v72 + 1)),nl78,v79,nl80,v81),(),h,sP⟩
   ·replace h:=iF hc77 h;refine wZ ?_;exact ⟨(nl73,v74,nl75,v76),(),h,sP⟩
  ·rintro ⟨nl5,v6,nl7,v8⟩ _ h;refine wQ<|wQ ?_;refine wJ (zG h) (fun (v106:Bool) (_:Unit)=>⟨84,[(6,.ref 12 0),(82,.d (.v (.bool v106)))],[(12,.cells 98 [.d (.sl (List.map TPart.e v3)),.mp 30241,.mp 30242]),(30241,.mapH nl7 [.u16,.u64] true (encM TDot.k TEvent.e v8)),(30242,.mapH nl5 [.u16,.u64] true (encM TDot.k TEvent.e v6))]⟩) (fun h=>?_) ?_
   ·refine wR<|wm ?_;obtain ⟨v107,hy108,h⟩:=iDet h;refine ws (cN (Vy c1 v107 hy108) rfl call59 rfl rfl rfl rfl)<|ws (LR.not rfl)<|wm ?_;refine wL (d:=75) rfl (fun hg109=>?_) (fun hg109=>?_)
    ·replace h:=iT hg109 h;refine wf<|wf<|wf<|wf<|wf<|wf<|ws (pT rfl rfl)<|wN ?_;exact ⟨true,(),h,sP⟩
    ·replace h:=iF hg109 h;refine wt (mV rfl) ?_;obtain ⟨v110,hy111,h⟩:=iDet h;refine wt (LR.rowN (Xo l2 v110 hy111) rfl call61 rfl rfl rfl rfl)<|wt (mV rfl) ?_;obtain ⟨v112,hy113,h⟩:=iDet h;refine PWl.frz [77] hK (.cons rfl<|.nil) rfl (by simp) ?_;refine wt (LR.rowN (Xn v110 c1 v112 hy113) rfl call60 rfl rfl rfl rfl)<|wt (LR.lenRow underlying67 rfl)<|wt (LR.gtr rfl rfl)<|ws (pF rfl rfl)<|wN ?_;exact ⟨(decide (0 < ((List.length v112):Int))),(),h,sP⟩
   ·rintro v106 _ h;refine wC rfl (fun hc114=>?_) (fun hc114=>?_)
    ·replace h:=iT hc114 h;refine wQ<|wR<|wa ?_;refine wa ?_;refine wN<|wX ?_;replace h:(Sum.inl _:Unit ⊕ (List TPart × Bool × (List (TDot × TEvent)) × Bool × (List (TDot × TEvent)))) = Sum.inl r0:=h;replace h:=Sum.inl.inj h;subst h;exact EndsO.mk () (.inr rfl) (sP (tl:=[(4,_),(5,_)]) (to:=[])) (.cons (.tmp rfl)<|.cons (.tmp rfl)<|.nil) rfl rfl
    ·replace h:=iF hc114 h;refine wK<|wQ<|wR<|wm ?_;refine wa ?_;refine wa ?_;refine wN<|wX ?_;exact nomatch (show (Sum.inr _:Unit ⊕ (List TPart × Bool × (List (TDot × TEvent)) × Bool × (List (TDot × TEvent)))) = Sum.inl r0 from h)
 | inr r0=>
  refine PObj.intro (sl:=[(0,_),(1,_)]) func11 rfl ntmps11 rfl rfl rfl ?_;intro ctx hK pv;refine wQ<|wR<|wa ?_;refine wa ?_;refine wN<|wQ<|wR<|wm ?_;obtain ⟨v3,hy4,h⟩:=iDet h;refine ws (LR.rowN (vl c1 v3 hy4) rfl call54 rfl rfl rfl rfl)<|PWl.frz [10] hK (.cons rfl<|.nil) rfl (by simp) ?_;refine ws (LR.buildR (ns:=[_,_,_]) QI rfl rfl rfl)<|ws (LR.box rfl rfl rfl rfl)<|PWl.sub (Sub.ownMap (id:=12) (j:=1) (id':=30241) (ks:=[.u16,.u64]) (ag:=true) (ck:=0) rfl rfl rfl rfl)<|PWl.sub (Sub.ownMap (id:=12) (j:=2) (id':=30242) (ks:=[.u16,.u64]) (ag:=true) (ck:=0) rfl rfl rfl rfl)<|wy (tl:=[(0,_),(1,_),(12,_)]) (to:=[(12,_),(30241,_),(30242,_)]) ?_;refine wa ?_;refine wN<|wQ<|wQ<|wR<|wm ?_;refine ws (lM (enc:=TEvent.e) (L:=l2) underlying24 rfl)<|wm ?_;refine wN ?_;refine PWc.jnX (zG h) (fun (⟨nl5,v6,nl7,v8⟩:Bool × (List (TDot × TEvent)) × Bool × (List (TDot × TEvent))) (_:Unit)=>⟨84,[(0,.d (.sl (List.map TPart.e c1))),(1,.d (.sl (List.map TEvent.e l2))),(6,.ref 12 0)],[(12,.cells 98 [.d (.sl (List.map TPart.e v3)),.mp 30241,.mp 30242]),(30241,.mapH nl7 [.u16,.u64] true (encM TDot.k TEvent.e v8)),(30242,.mapH nl5 [.u16,.u64] true (encM TDot.k TEvent.e v6))]⟩) (fun h=>?_) ?_
  ·refine wB<|wM (fun (⟨v72,nl73,v74,nl75,v76⟩:Int × Bool × (List (TDot × TEvent)) × Bool × (List (TDot × TEvent))) (_:Unit)=>⟨84,[(0,.d (.sl (List.map TPart.e c1))),(1,.d (.sl (List.map TEvent.e l2))),(6,.ref 12 0),(13,.d (.sl (List.map TEvent.e l2))),(14,.d (.v (.int .i64 (List.length l2:Int)))),(15,.d (.v (.int .i64 v72)))],[(12,.cells 98 [.d (.sl (List.map TPart.e v3)),.mp 30241,.mp 30242]),(30241,.mapH nl75 [.u16,.u64] true (encM TDot.k TEvent.e v76)),(30242,.mapH nl73 [.u16,.u64] true (encM TDot.k TEvent.e v74))]⟩) () h (Sub.trans (Sub.nToH (id:=30241) rfl)<|Sub.trans (Sub.nToH (id:=30242) rfl)<|sP) ?_;rintro N ⟨v72,nl73,v74,nl75,v76⟩ _ h;refine wQ<|wR<|ws (LR.lss rfl rfl)<|wN<|wQ ?_;refine wC rfl (fun hc77=>?_) (fun hc77=>?_)
   ·replace h:=iT hc77 h;refine wK<|wQ ?_;refine PWc.jnX (zG h) (fun (⟨nl78,v79,nl80,v81⟩:Bool × (List (TDot × TEvent)) × Bool × (List (TDot × TEvent))) (_:Unit)=>⟨84,[(0,.d (.sl (List.map TPart.e c1))),(1,.d (.sl (List.map TEvent.e l2))),(6,.ref 12 0),(13,.d (.sl (List.map TEvent.e l2))),(14,.d (.v (.int .i64 (List.length l2:Int)))),(15,.d (.v (.int .i64 v72)))],[(12,.cells 98 [.d (.sl (List.map TPart.e v3)),.mp 30241,.mp 30242]),(30241,.mapH nl80 [.u16,.u64] true (encM TDot.k TEvent.e v81)),(30242,.mapH nl78 [.u16,.u64] true (encM TDot.k TEvent.e v79))]⟩) (fun h=>?_) ?_
    ·refine wB<|wQ<|wR<|wm ?_;obtain ⟨x82,hy83,h⟩:=iIdx h;refine ws (iX (enc:=TEvent.e) (L:=l2) (y:=x82) underlying24 sizeOf69 rfl rfl hy83 (fun _=>rfl))<|ws (lE (ys:=[_,_,_,_,_,_,_]) isAgg69 sizeOf69 rfl rfl rfl)<|ws (LR.allocZ (cs:=[_,_,_,_,_,_,_]) zeroValue69 rfl rfl rfl rfl)<|wa ?_;refine ws (sB (ns:=[_,_,_,_,_,_,_]) sizeOf69 rfl rfl rfl rfl rfl rfl rfl)<|wN<|wQ<|wQ ?_;refine wJ (zG h) (fun (v84:Bool) (_:Unit)=>⟨84,[(0,.d (.sl (List.map TPart.e c1))),(1,.d (.sl (List.map TEvent.e l2))),(6,.ref 12 0),(8,.ref 8 0),(13,.d (.sl (List.map TEvent.e l2))),(14,.d (.v (.int .i64 (List.length l2:Int)))),(15,.d (.v (.int .i64 v72))),(49,.d (.v (.bool v84)))],[(8,.cells 69 [.d (.v (.int .u16 x82.dot.dev)),.d (.v (.int .u64 x82.dot.n)),.d (.v (.int .u8 x82.kind)),.d (.v (.int .u64 x82.cid)),.d (.v (.int .u8 x82.field)),.d (.v (.string x82.text)),.d (.sl (List.map TDot.e x82.kills))]),(12,.cells 98 [.d (.sl (List.map TPart.e v3)),.mp 30241,.mp 30242]),(30241,.mapH nl75 [.u16,.u64] true (encM TDot.k TEvent.e v76)),(30242,.mapH nl73 [.u16,.u64] true (encM TDot.k TEvent.e v74))]⟩) (fun h=>?_) ?_
     ·refine wD (by kernel_rfl) (by kernel_rfl) ?_;refine qs (fun _ he ho=>lA (ps:=[_,_,_,_,_,_,_]) isAgg69 sizeOf69 (he rfl rfl) (ho rfl) rfl rfl) ?_;obtain ⟨v85,hy86,h⟩:=iDet h;refine qs (fun _ he ho=>cN (Xm x82 v85 hy86) (he rfl rfl) call55 (evsE he rfl rfl) rfl rfl rfl) ?_;refine qs (fun _ he ho=>LR.not (he rfl rfl)) ?_;refine qs (fun _ he ho=>mV (he rfl rfl)) ?_;refine PQl.split (d:=23) rfl (fun hg87=>?_) (fun hg87=>?_)
      ·replace h:=iT hg87 h;refine kF<|kF<|kF<|kU<|kU<|kU<|kU<|kU<|kU ?_;refine kU<|kU<|kU<|kU<|kF ?_;refine qs (fun _ he ho=>pT (he rfl rfl) (he rfl rfl)) ?_;refine qs (fun _ he ho=>mV (he rfl rfl))<|kF<|kF<|kF<|kF<|kK (tl:=[(0,_),(1,_),(6,_),(8,_),(13,_),(14,_),(15,_),(24,_),(25,_),(26,_),(27,_),(28,_),(29,_),(30,_),(31,_),(32,_),(33,_),(34,_),(35,_),(36,_),(37,_),(39,_),(40,_),(41,_),(42,_),(43,_)]) ?_;refine kU<|kU<|kU<|kU<|kF ?_;refine qs (fun _ he ho=>pT (he rfl rfl) (he rfl rfl))<|qN ?_;exact ⟨true,(),h,sP⟩
      ·replace h:=iF hg87 h;refine qt (fun _ he ho=>mV (he rfl rfl)) ?_;refine qt (fun _ he ho=>LR.gtr (he rfl rfl) (he rfl rfl)) ?_;refine qt (fun _ he ho=>mV (he rfl rfl)) ?_;refine PQl.split (d:=26) rfl (fun hg88=>?_) (fun hg88=>?_)
       ·replace h:=iT hg88 h;refine qt (fun _ he ho=>mV (he rfl rfl)) ?_;refine qt (fun _ he ho=>mV (he rfl rfl)) ?_;refine qt (fun _ he ho=>LR.subW (he rfl rfl) (he rfl rfl)) ?_;obtain ⟨x89,hy90,h⟩:=iIdx h;refine qt (fun _ he ho=>iX (enc:=TEvent.e) (L:=l2) (y:=x89) underlying24 sizeOf69 (he rfl rfl) (he rfl rfl) hy90 (fun _=>rfl)) ?_;refine qt (fun _ he ho=>fE underlying69 rfl sizeOf66 (by decide) rfl (he rfl rfl)) ?_;refine qt (fun _ he ho=>lE (ys:=[_,_]) isAgg66 sizeOf66 (he rfl rfl) rfl rfl) ?_;refine qt (fun _ he ho=>fR underlying69 rfl sizeOf66 (by decide) rfl (he rfl rfl)) ?_;refine qt (fun _ he ho=>lA (ps:=[_,_]) isAgg66 sizeOf66 (he rfl rfl) (ho rfl) rfl rfl) ?_;obtain ⟨v91,hy92,h⟩:=iDet h;refine qt (fun _ he ho=>cN (WR x89.dot x82.dot v91 hy92) (he rfl rfl) call56 (evsE he rfl rfl) rfl rfl rfl) ?_;refine qt (fun _ he ho=>LR.geq (he rfl rfl) (he rfl rfl)) ?_;refine qt (fun _ he ho=>pT (he rfl rfl) (he rfl rfl)) ?_;refine qs (fun _ he ho=>pF (he rfl rfl) (he rfl rfl)) ?_;refine qs (fun _ he ho=>mV (he rfl rfl)) ?_;refine PQl.split (d:=39) rfl (fun hg93=>?_) (fun hg93=>?_)
        ·replace h:=iT hg93 h;refine kF<|kF<|kK (tl:=[(0,_),(1,_),(6,_),(8,_),(13,_),(14,_),(15,_),(24,_),(25,_),(26,_),(27,_),(28,_),(29,_),(30,_),(31,_),(32,_),(33,_),(34,_),(35,_),(36,_),(37,_),(39,_),(40,_),(41,_)]) ?_;refine kF<|kF<|kU<|kU<|kU<|kU<|kF ?_;refine qs (fun _ he ho=>pT (he rfl rfl) (he rfl rfl))<|qN ?_;exact ⟨true,(),h,sP⟩
        ·replace h:=iF hg93 h;refine qt (fun _ he ho=>fR underlying69 rfl sizeOf5 (by decide) rfl (he rfl rfl)) ?_;refine qt (fun _ he ho=>lD isAgg5 (he rfl rfl) (ho rfl) rfl)<|kK (tl:=[(0,_),(1,_),(6,_),(8,_),(13,_),(14,_),(15,_),(24,_),(25,_),(26,_),(27,_),(28,_),(29,_),(30,_),(31,_),(32,_),(33,_),(34,_),(35,_),(36,_),(37,_),(39,_),(40,_),(41,_)]) ?_;refine qt (fun _ he ho=>eQ (he rfl rfl) (he rfl rfl)) ?_;refine qt (fun _ he ho=>mV (he rfl rfl)) ?_;refine PQl.split (d:=43) rfl (fun hg94=>?_) (fun hg94=>?_)
         ·replace h:=iT hg94 h;refine qt (fun _ he ho=>mV (he rfl rfl)) ?_;refine qt (fun _ he ho=>fR underlying69 rfl sizeOf66 (by decide) rfl (he rfl rfl)) ?_;refine qt (fun _ he ho=>lA (ps:=[_,_]) isAgg66 sizeOf66 (he rfl rfl) (ho rfl) rfl rfl) ?_;obtain ⟨v95,hy96,h⟩:=iDet h;refine qt (fun _ he ho=>cN (vS l2 x82.dot v95 hy96) (he rfl rfl) call57 (evsE he rfl rfl) rfl rfl rfl) ?_;refine qt (fun _ he ho=>pT (he rfl rfl) (he rfl rfl)) ?_;refine qs (fun _ he ho=>pF (he rfl rfl) (he rfl rfl))<|qN ?_;exact ⟨v95,(),h,sP⟩
         ·replace h:=iF hg94 h;refine kF<|kF<|kF<|kF ?_;refine qt (fun _ he ho=>pF (he rfl rfl) (he rfl rfl)) ?_;refine qs (fun _ he ho=>pF (he rfl rfl) (he rfl rfl))<|qN ?_;exact ⟨false,(),h,sP⟩
       ·replace h:=iF hg88 h;refine kF<|kF<|kF<|kF<|kF<|kF<|kF<|kF<|kF ?_;refine kF ?_;refine qt (fun _ he ho=>pF (he rfl rfl) (he rfl rfl)) ?_;refine qs (fun _ he ho=>pF (he rfl rfl) (he rfl rfl)) ?_;refine qs (fun _ he ho=>mV (he rfl rfl)) ?_;refine qt (fun _ he ho=>fR underlying69 rfl sizeOf5 (by decide) rfl (he rfl rfl)) ?_;refine qt (fun _ he ho=>lD isAgg5 (he rfl rfl) (ho rfl) rfl) ?_;refine qt (fun _ he ho=>eQ (he rfl rfl) (he rfl rfl))<|kK (tl:=[(0,_),(1,_),(6,_),(8,_),(13,_),(14,_),(15,_),(24,_),(25,_),(26,_),(27,_),(28,_),(29,_),(30,_),(31,_),(32,_),(33,_),(34,_),(35,_),(36,_),(37,_),(39,_),(40,_),(41,_),(42,_)]) ?_;refine qt (fun _ he ho=>mV (he rfl rfl)) ?_;refine PQl.split (d:=43) rfl (fun hg97=>?_) (fun hg97=>?_)
        ·replace h:=iT hg97 h;refine qt (fun _ he ho=>mV (he rfl rfl)) ?_;refine qt (fun _ he ho=>fR underlying69 rfl sizeOf66 (by decide) rfl (he rfl rfl)) ?_;refine qt (fun _ he ho=>lA (ps:=[_,_]) isAgg66 sizeOf66 (he rfl rfl) (ho rfl) rfl rfl) ?_;obtain ⟨v98,hy99,h⟩:=iDet h;refine qt (fun _ he ho=>cN (vS l2 x82.dot v98 hy99) (he rfl rfl) call57 (evsE he rfl rfl) rfl rfl rfl) ?_;refine qt (fun _ he ho=>pT (he rfl rfl) (he rfl rfl)) ?_;refine qs (fun _ he ho=>pF (he rfl rfl) (he rfl rfl))<|qN ?_;exact ⟨v98,(),h,sP⟩
        ·replace h:=iF hg97 h;refine kF<|kF<|kF<|kF ?_;refine qt (fun _ he ho=>pF (he rfl rfl) (he rfl rfl)) ?_;refine qs (fun _ he ho=>pF (he rfl rfl) (he rfl rfl))<|qN ?_;exact ⟨false,(),h,sP⟩
     ·rintro v84 _ h;refine wC rfl (fun hc100=>?_) (fun hc100=>?_)
      ·replace h:=iT hc100 h;refine wQ<|wR<|wa ?_;refine wa ?_;refine wN<|wX ?_;exact nomatch (show (Sum.inl _:Unit ⊕ (List TPart × Bool × (List (TDot × TEvent)) × Bool × (List (TDot × TEvent)))) = Sum.inr r0 from h)
      ·replace h:=iF hc100 h;refine wK<|wQ<|wR<|ws (fR underlying69 rfl sizeOf5 (by decide) rfl rfl)<|ws (lD isAgg5 rfl rfl rfl)<|ws (eQ rfl rfl)<|wN ?_;refine wC rfl (fun hc101=>?_) (fun hc101=>?_)
       ·replace h:=iT hc101 h;refine wz (tl:=[(0,_),(1,_),(6,_),(8,_),(13,_),(14,_),(15,_)]) (to:=[(8,_),(12,_),(30241,_),(30242,_)]) ?_;refine PWc.regionE [⟨[53],[],[],[],[],[12],[],[]⟩,⟨[54],[],[],[],[],[12],[],[]⟩,⟨[55],[],[],[],[],[12],[],[]⟩,⟨[56],[],[],[],[],[12],[],[]⟩,⟨[57],[],[12],[],[],[30241],[],[]⟩,⟨[58],[],[8],[],[],[],[],[]⟩,⟨[57,59],[12,30241],[12,30241,30242],[],[(30241,[57])],[30241],[30242],[12,30241,30242]⟩,⟨[60],[],[],[],[],[12],[],[]⟩,⟨[61],[],[],[],[],[12],[],[]⟩,⟨[],[12],[12,30241],[],[],[],[30241,30242],[]⟩] (by kernel_rfl) (by kernel_rfl) rfl ?_;refine kp (fun _ he ho=>mV (he rfl rfl)) ?_;refine kp (fun _ he ho=>mV (he rfl rfl)) ?_;refine kp (fun _ he ho=>LR.nilCheckRef (he rfl rfl)) ?_;refine kp (fun _ he ho=>fR underlying98 rfl sizeOf96 (by decide) rfl (he rfl rfl)) ?_;refine kp (fun _ he ho=>lD isAgg96 (he rfl rfl) (ho rfl rfl) rfl) ?_;refine kp (fun _ he ho=>lA (ps:=[_,_,_,_,_,_,_]) isAgg69 sizeOf69 (he rfl rfl) (ho rfl rfl) rfl rfl) ?_;obtain ⟨y102,hy103,h⟩:=iDet h;refine PQe.callObjS [(100,30241),(500,12),(501,30242)] [57] [100,500,501] [(100,.mapH y102.1 [.u16,.u64] true (encM TDot.k TEvent.e y102.2)),(500,.cells 98 [.d (.sl (List.map TPart.e v3)),.junk,.mp 501])] [(501,.mapH nl73 [.u16,.u64] true (encM TDot.k TEvent.e v74))] (PObj.frame [(500,.cells 98 [.d (.sl (List.map TPart.e v3)),.mp 100,.mp 501]),(501,.mapH nl73 [.u16,.u64] true (encM TDot.k TEvent.e v74))] [(500,.cells 98 [.d (.sl (List.map TPart.e v3)),.junk,.mp 501]),(501,.mapH nl73 [.u16,.u64] true (encM TDot.k TEvent.e v74))] (vT x82 nl75 v76 y102 hy103) (fun _=>rfl) (fun _=>rfl) rfl rfl (.cons (.cells (.keep rfl<|.junk<|.keep rfl<|.nil))<|.cons (.same rfl)<|.nil)) hK (fun _ he=>⟨he rfl rfl,evsE he rfl rfl⟩) call58 (by first | rfl | (simp;done) | (simp [PV.nilD,PV.ren,rn];omega)) (by repeat' first | constructor | (congr 1;first | (simp;done) | (simp;omega) | omega)) (.cons rfl<|.cons rfl<|.nil) (.cons rfl<|.nil) (.cons (by first | rfl | (congr 1;first | (simp;done) | (simp;omega) | omega))<|.nil) rfl rfl rfl rfl rfl rfl (.inl rfl) rfl ?_;refine kp (fun _ he ho=>LR.nilCheckRef (he rfl rfl)) ?_;refine kp (fun _ he ho=>fR underlying98 rfl sizeOf96 (by decide) rfl (he rfl rfl)) ?_;refine ks (fun _ he ho=>sB (ns:=[_,_,_]) sizeOf96 (he rfl rfl) (he rfl rfl) rfl rfl (ho rfl rfl) rfl rfl)<|PQe.nil ?_;exact ⟨(nl73,v74,y102.1,y102.2),(),h,sP⟩
       ·replace h:=iF hc101 h;refine wz (tl:=[(0,_),(1,_),(6,_),(8,_),(13,_),(14,_),(15,_)]) (to:=[(8,_),(12,_),(30241,_),(30242,_)]) ?_;refine PWc.regionE [⟨[62],[],[],[],[],[12],[],[]⟩,⟨[63],[],[],[],[],[12],[],[]⟩,⟨[64],[],[],[],[],[12],[],[]⟩,⟨[65],[],[],[],[],[12],[],[]⟩,⟨[66],[],[12],[],[],[30242],[],[]⟩,⟨[67],[],[8],[],[],[],[],[]⟩,⟨[66,68],[12,30242],[12,30241,30242],[],[(30242,[66])],[30242],[30241],[12,30241,30242]⟩,⟨[69],[],[],[],[],[12],[],[]⟩,⟨[70],[],[],[],[],[12],[],[]⟩,⟨[],[12],[12,30242],[],[],[],[30241,30242],[]⟩] (by kernel_rfl) (by kernel_rfl) rfl ?_;refine kp (fun _ he ho=>mV (he rfl rfl)) ?_;refine kp (fun _ he ho=>mV (he rfl rfl)) ?_;refine kp (fun _ he ho=>LR.nilCheckRef (he rfl rfl)) ?_;refine kp (fun _ he ho=>fR underlying98 rfl sizeOf96 (by decide) rfl (he rfl rfl)) ?_;refine kp (fun _ he ho=>lD isAgg96 (he rfl rfl) (ho rfl rfl) rfl) ?_;refine kp (fun _ he ho=>lA (ps:=[_,_,_,_,_,_,_]) isAgg69 sizeOf69 (he rfl rfl) (ho rfl rfl) rfl rfl) ?_;obtain ⟨y104,hy105,h⟩:=iDet h;refine PQe.callObjS [(100,30242),(500,12),(501,30241)] [66] [100,500,501] [(100,.mapH y104.1 [.u16,.u64] true (encM TDot.k TEvent.e y104.2)),(500,.cells 98 [.d (.sl (List.map TPart.e v3)),.mp 501,.junk])] [(501,.mapH nl75 [.u16,.u64] true (encM TDot.k TEvent.e v76))] (PObj.frame [(500,.cells 98 [.d (.sl (List.map TPart.e v3)),.mp 501,.mp 100]),(501,.mapH nl75 [.u16,.u64] true (encM TDot.k TEvent.e v76))] [(500,.cells 98 [.d (.sl (List.map TPart.e v3)),.mp 501,.junk]),(501,.mapH nl75 [.u16,.u64] true (encM TDot.k TEvent.e v76))] (vT x82 nl73 v74 y104 hy105) (fun _=>rfl) (fun _=>rfl) rfl rfl (.cons (.cells (.keep rfl<|.keep rfl<|.junk<|.nil))<|.cons (.same rfl)<|.nil)) hK (fun _ he=>⟨he rfl rfl,evsE he rfl rfl⟩) call58 (by first | rfl | (simp;done) | (simp [PV.nilD,PV.ren,rn];omega)) (by repeat' first | constructor | (congr 1;first | (simp;done) | (simp;omega) | omega)) (.cons rfl<|.cons rfl<|.nil) (.cons rfl<|.nil) (.cons (by first | rfl | (congr 1;first | (simp;done) | (simp;omega) | omega))<|.nil) rfl rfl rfl rfl rfl rfl (.inl rfl) rfl ?_;refine kp (fun _ he ho=>LR.nilCheckRef (he rfl rfl)) ?_;refine kp (fun _ he ho=>fR underlying98 rfl sizeOf96 (by decide) rfl (he rfl rfl)) ?_;refine ks (fun _ he ho=>sB (ns:=[_,_,_]) sizeOf96 (he rfl rfl) (he rfl rfl) rfl rfl (ho rfl rfl) rfl rfl)<|PQe.nil ?_;exact ⟨(y104.1,y104.2,nl75,v76),(),h,sP⟩
    ·rintro ⟨nl78,v79,nl80,v81⟩ _ h;refine wR<|ws (LR.addW rfl rfl)<|wm ?_;refine wN ?_;exact ⟨((IntKind.i64.wrap (v72 + 1)),nl78,v79,nl80,v81),(),h,sP⟩
   ·replace h:=iF hc77 h;refine wZ ?_;exact ⟨(nl73,v74,nl75,v76),(),h,sP⟩
  ·rintro ⟨nl5,v6,nl7,v8⟩ _ h;refine wQ<|wQ ?_;refine wJ (zG h) (fun (v106:Bool) (_:Unit)=>⟨84,[(6,.ref 12 0),(82,.d (.v (.bool v106)))],[(12,.cells 98 [.d (.sl (List.map TPart.e v3)),.mp 30241,.mp 30242]),(30241,.mapH nl7 [.u16,.u64] true (encM TDot.k TEvent.e v8)),(30242,.mapH nl5 [.u16,.u64] true (encM TDot.k TEvent.e v6))]⟩) (fun h=>?_) ?_
   ·refine wR<|wm ?_;obtain ⟨v107,hy108,h⟩:=iDet h;refine ws (cN (Vy c1 v107 hy108) rfl call59 rfl rfl rfl rfl)<|ws (LR.not rfl)<|wm ?_;refine wL (d:=75) rfl (fun hg109=>?_) (fun hg109=>?_)
    ·replace h:=iT hg109 h;refine wf<|wf<|wf<|wf<|wf<|wf<|ws (pT rfl rfl)<|wN ?_;exact ⟨true,(),h,sP⟩
    ·replace h:=iF hg109 h;refine wt (mV rfl) ?_;obtain ⟨v110,hy111,h⟩:=iDet h;refine wt (LR.rowN (Xo l2 v110 hy111) rfl call61 rfl rfl rfl rfl)<|wt (mV rfl) ?_;obtain ⟨v112,hy113,h⟩:=iDet h;refine PWl.frz [77] hK (.cons rfl<|.nil) rfl (by simp) ?_;refine wt (LR.rowN (Xn v110 c1 v112 hy113) rfl call60 rfl rfl rfl rfl)<|wt (LR.lenRow underlying67 rfl)<|wt (LR.gtr rfl rfl)<|ws (pF rfl rfl)<|wN ?_;exact ⟨(decide (0 < ((List.length v112):Int))),(),h,sP⟩
   ·rintro v106 _ h;refine wC rfl (fun hc114=>?_) (fun hc114=>?_)
    ·replace h:=iT hc114 h;refine wQ<|wR<|wa ?_;refine wa ?_;refine wN<|wX ?_;exact nomatch (show (Sum.inl _:Unit ⊕ (List TPart × Bool × (List (TDot × TEvent)) × Bool × (List (TDot × TEvent)))) = Sum.inr r0 from h)
    ·replace h:=iF hc114 h;refine wK<|wQ<|wR<|wm ?_;refine wa ?_;refine wa ?_;refine wN<|wX ?_;replace h:(Sum.inr _:Unit ⊕ (List TPart × Bool × (List (TDot × TEvent)) × Bool × (List (TDot × TEvent)))) = Sum.inr r0:=h;replace h:=Sum.inr.inj h;subst h;exact EndsO.mk () (.inr rfl) (sP (tl:=[(4,_),(5,_)]) (to:=[(12,_),(30241,_),(30242,_)])) (.cons (.tmp rfl)<|.cons (.tmp rfl)<|.nil) rfl rfl

theorem vn (d1:TDelta) (row2:List Int) (r0:List Int) (h:(yU d1 row2).wp (· = r0)):PObj prog 13 [.ref 100 0,.agg (List.map .d (TDelta.e d1))] [(100,.cells 41 [.row 101 (List.length row2)]),(101,.row 5 1 (List.map (eK .u8) row2))] [100] (.tup []) (fun _:Unit=>[(100,.cells 41 [.row 101 (List.length r0)]),(101,.row 5 1 (List.map (eK .u8) r0))]):=by
 refine PObj.intro (sl:=[(0,_),(1,_)]) func13 rfl ntmps13 rfl rfl rfl ?_;intro ctx hK pv;refine wQ<|wR<|ws (LR.box rfl rfl rfl rfl)<|wN<|wQ<|wR<|wm ?_;refine ws (fR underlying26 rfl sizeOf23 (by decide) rfl rfl)<|ws (lD isAgg23 rfl rfl rfl) ?_;obtain ⟨y3,hy4,h⟩:=iDet h;refine ws (LR.callObj [(100,100),(101,101)] [] [100,101] (xL d1.from_ row2 y3 hy4) hK rfl call63 rfl (by first | rfl | (simp;done) | (simp [PV.nilD,PV.ren,rn];omega)) (by repeat' first | constructor | (congr 1;first | (simp;done) | (simp;omega) | omega)) rfl rfl rfl rfl) ?_;refine wN<|wQ<|wz (tl:=[(0,_),(3,_)]) (to:=[(3,_),(100,_),(101,_),(1100,_)]) ?_;refine wR<|wm ?_;refine ws (fR underlying26 rfl sizeOf23 (by decide) rfl rfl)<|ws (lD isAgg23 rfl rfl rfl) ?_;obtain ⟨y5,hy6,h⟩:=iDet h;refine ws (LR.callObj [(100,100),(101,101)] [] [100,101] (xL d1.to_ y3 y5 hy6) hK rfl call63 rfl (by first | rfl | (simp;done) | (simp [PV.nilD,PV.ren,rn];omega)) (by repeat' first | constructor | (congr 1;first | (simp;done) | (simp;omega) | omega)) rfl rfl rfl rfl) ?_;refine wN<|wz (tl:=[(0,_),(3,_)]) (to:=[(3,_),(100,_),(101,_),(1100,_)]) ?_;refine wR<|wm ?_;refine ws (fR underlying26 rfl sizeOf24 (by decide) rfl rfl)<|ws (lD isAgg24 rfl rfl rfl) ?_;obtain ⟨y7,hy8,h⟩:=iDet h;refine ws (LR.callObj [(100,100),(101,101)] [] [100,101] (wP d1.events y5 y7 hy8) hK rfl call64 rfl (by first | rfl | (simp;done) | (simp [PV.nilD,PV.ren,rn];omega)) (by repeat' first | constructor | (congr 1;first | (simp;done) | (simp;omega) | omega)) rfl rfl rfl rfl) ?_;refine wN ?_;cases h;exact EndsO.mk () (.inl rfl) (sO (tl:=[]) (to:=[(100,_),(101,_),(1100,_)]) rfl (.nil) (.cons rfl (by first | rfl | (congr 1;congr 2;first | (simp;done) | (simp;omega) | omega))<|.c2 rfl rfl rfl rfl<|.nil)) (.nil) rfl rfl

theorem Xr (d1:TDelta) (l2:List L18Act) (r0:Bool) (h:(xq d1 l2).wp (· = r0)):PFun prog 3 [.agg (List.map .d (TDelta.e d1)),.d (.sl (List.map L18Act.e l2))] (.d (.v (.bool r0))):=by
 refine fI (sl:=[(0,_),(1,_)]) func3 rfl ntmps3 rfl rfl ?_;intro ctx hK;refine wQ<|wR<|ws (LR.box rfl rfl rfl rfl)<|wa ?_;refine wN<|wQ<|wQ ?_;refine wJ (zG h) (fun (v3:Bool) (_:Unit)=>⟨49,[(1,.d (.sl (List.map L18Act.e l2))),(2,.ref 2 0),(16,.d (.v (.bool v3)))],[(2,.cells 26 [.d (.sl (List.map TPart.e d1.from_)),.d (.sl (List.map TPart.e d1.to_)),.d (.sl (List.map TEvent.e d1.events))])]⟩) (fun h=>?_) ?_
 ·refine wR<|ws (lA (ps:=[_,_,_]) isAgg26 sizeOf26 rfl rfl rfl rfl) ?_;obtain ⟨v4,hy5,h⟩:=iDet h;refine ws (cN (yEa d1 v4 hy5) rfl call7 rfl rfl rfl rfl)<|ws (LR.not rfl)<|wm ?_;refine wL (d:=12) rfl (fun hg6=>?_) (fun hg6=>?_)
  ·replace h:=iT hg6 h;refine wf<|wf<|wf<|ws (pT rfl rfl)<|wN ?_;exact ⟨true,(),h,sP⟩
  ·replace h:=iF hg6 h;refine wt (mV rfl) ?_;obtain ⟨v7,hy8,h⟩:=iDet h;refine wt (cN (yFa l2 20 v7 hy8) rfl call8 rfl rfl rfl rfl)<|wt (eQ rfl rfl)<|ws (pF rfl rfl)<|wN ?_;exact ⟨(decide (v7 = 0)),(),h,sP⟩
 ·rintro v3 _ h;refine wC rfl (fun hc9=>?_) (fun hc9=>?_)
  ·replace h:=iT hc9 h;refine wQ<|wR ?_;obtain ⟨v10,hy11,h⟩:=iDet h;refine ws (cN (Wp v10 hy11) rfl call9 rfl rfl rfl rfl)<|wa ?_;refine wN<|wX ?_;cases h;exact ⟨.inr rfl,_,.cons (.tmp rfl rfl)<|.nil,rfl⟩
  ·replace h:=iF hc9 h;refine wK<|wQ<|wR<|wm ?_;obtain ⟨v12,hy13,h⟩:=iDet h;refine ws (cN (xOa l2 v12 hy13) rfl call10 rfl rfl rfl rfl)<|ws (LR.allocZ (cs:=[_,_]) zeroValue32 rfl rfl rfl rfl)<|ws (sB (ns:=[_,_]) sizeOf32 rfl rfl rfl rfl rfl rfl rfl)<|wN<|wQ<|wz (tl:=[(2,_),(5,_)]) (to:=[(2,_),(5,_)]) ?_;refine PWc.regionE [⟨[21],[],[],[],[],[5],[],[]⟩,⟨[22],[],[5],[],[],[],[],[]⟩,{ws:=[23]},⟨[24],[],[],[],[],[5],[],[]⟩,⟨[25],[],[5],[],[],[],[],[]⟩,⟨[26],[20520,20521,20522],[],[20520,20521,20522],[],[20520],[20521,20522],[]⟩,⟨[20],[],[],[],[],[20520],[],[]⟩,⟨[27],[],[],[],[],[20520],[],[]⟩,{ws:=[28]},⟨[6],[],[],[],[],[20520],[],[]⟩,{ws:=[7]}] (by kernel_rfl) (by kernel_rfl) rfl ?_;refine kp (fun _ he ho=>fR underlying32 rfl sizeOf23 (by decide) rfl (he rfl rfl)) ?_;refine kp (fun _ he ho=>lD isAgg23 (he rfl rfl) (ho rfl rfl) rfl) ?_;obtain ⟨v14,hy15,h⟩:=iDet h;refine kp (fun _ he ho=>cN (PRow.fun (Vz v12.ctx v14 hy15)) (he rfl rfl) call12 (evsE he rfl rfl) rfl rfl rfl) ?_;refine kp (fun _ he ho=>fR underlying32 rfl sizeOf24 (by decide) rfl (he rfl rfl)) ?_;refine kp (fun _ he ho=>lD isAgg24 (he rfl rfl) (ho rfl rfl) rfl) ?_;obtain ⟨y16,hy17,h⟩:=iDet h;rcases y16 with z18 | z21
   ·replace h:=iSumL h;refine PQe.callObj [] [] [] (Yq v14 v12.l (.inl z18) hy17) hK (fun _ he=>⟨he rfl rfl,evsE he rfl rfl⟩) call11 (by first | rfl | (simp;done) | (simp [PV.nilD,PV.ren,rn];omega)) (.nil) rfl rfl rfl rfl (.inl rfl) rfl ?_;refine kp (fun _ he ho=>mV (he rfl rfl)) ?_;refine kp (fun _ he ho=>LR.extract (he rfl rfl) rfl) ?_;refine kp (fun _ he ho=>LR.extract (he rfl rfl) rfl) ?_;refine kp (fun _ he ho=>aS (he rfl rfl)) ?_;refine kp (fun _ he ho=>aS (he rfl rfl))<|PQe.nil<|wQ<|wz (tl:=[(2,_),(5,_),(6,_),(7,_)]) (to:=[(2,_),(5,_)]) ?_;refine wR<|ws (LR.allocR (cs:=[_]) zeroValue41 rfl rfl rfl rfl)<|PWl.sub (Sub.ownNil (id:=8) (j:=0) (id':=30160) (e:=5) (k:=1) rfl rfl rfl rfl)<|wN<|wQ<|wz (tl:=[(2,_),(5,_),(6,_),(7,_),(8,_)]) (to:=[(2,_),(5,_),(8,_),(30160,_)]) ?_;refine wR<|ws (lA (ps:=[_,_,_]) isAgg26 sizeOf26 rfl rfl rfl rfl) ?_;obtain ⟨y19,hy20,h⟩:=iDet h;refine ws (LR.callObj [(100,8),(101,30160)] [] [100,101] (vn d1 ([]:List Int) y19 hy20) hK rfl call13 rfl (by first | rfl | (simp;done) | (simp [PV.nilD,PV.ren,rn];omega)) (by repeat' first | constructor | (congr 1;first | (simp;done) | (simp;omega) | omega)) rfl rfl rfl rfl) ?_;refine wN<|wQ<|wz (tl:=[(2,_),(5,_),(6,_),(7,_),(8,_)]) (to:=[(2,_),(5,_),(8,_),(30160,_)]) ?_;refine PWc.regionE [{ws:=[31]},{ws:=[32]},{ws:=[33]},{ws:=[34]},{ws:=[35]},{ws:=[36]},{ws:=[37]},{ws:=[38]},{ws:=[39]},{ws:=[40]},{ws:=[41]},{ws:=[42]},{ws:=[43]},{ws:=[44]},{ws:=[45]},{ws:=[46]},{ws:=[47]},{ws:=[48]},{ws:=[4]}] (by kernel_rfl) (by kernel_rfl) rfl ?_;refine kp (fun _ he ho=>mV (he rfl rfl)) ?_;refine kp (fun _ he ho=>eQ (he rfl rfl) (he rfl rfl)) ?_;refine kp (fun _ he ho=>mV (he rfl rfl))<|kx<|kx<|kx<|kx ?_;refine kp (fun _ he ho=>pF (he rfl rfl) (he rfl rfl)) ?_;refine kp (fun _ he ho=>mV (he rfl rfl))<|kx<|kx<|kx<|kx<|kx ?_;refine kp (fun _ he ho=>pF (he rfl rfl) (he rfl rfl)) ?_;refine kp (fun _ he ho=>mV (he rfl rfl))<|kx ?_;refine kp (fun _ he ho=>pF (he rfl rfl) (he rfl rfl)) ?_;refine kp (fun _ he ho=>aS (he rfl rfl))<|PQe.nil<|wX ?_;cases h;exact ⟨.inr rfl,_,.cons (.tmp rfl rfl)<|.nil,rfl⟩
   ·replace h:=iSumR h;refine PQe.callObj [(12,20520),(30241,20521),(30242,20522)] [] [12,30241,30242] (Yq v14 v12.l (.inr z21) hy17) hK (fun _ he=>⟨he rfl rfl,evsE he rfl rfl⟩) call11 (by first | rfl | (simp;done) | (simp [PV.nilD,PV.ren,rn];omega)) (.nil) rfl rfl rfl rfl (.inl rfl) rfl ?_;refine kp (fun _ he ho=>mV (he rfl rfl)) ?_;refine kp (fun _ he ho=>LR.extract (he rfl rfl) rfl) ?_;refine kp (fun _ he ho=>LR.extract (he rfl rfl) rfl) ?_;refine kp (fun _ he ho=>aS (he rfl rfl)) ?_;refine kp (fun _ he ho=>aS (he rfl rfl))<|PQe.nil<|wQ<|wz (tl:=[(2,_),(5,_),(6,_),(7,_)]) (to:=[(2,_),(5,_),(20520,_),(20521,_),(20522,_)]) ?_;refine wR<|ws (LR.allocR (cs:=[_]) zeroValue41 rfl rfl rfl rfl)<|PWl.sub (Sub.ownNil (id:=8) (j:=0) (id':=30160) (e:=5) (k:=1) rfl rfl rfl rfl)<|wN<|wQ<|wz (tl:=[(2,_),(5,_),(6,_),(7,_),(8,_)]) (to:=[(2,_),(5,_),(8,_),(20520,_),(20521,_),(20522,_),(30160,_)]) ?_;refine wR<|ws (lA (ps:=[_,_,_]) isAgg26 sizeOf26 rfl rfl rfl rfl) ?_;obtain ⟨y22,hy23,h⟩:=iDet h;refine ws (LR.callObj [(100,8),(101,30160)] [] [100,101] (vn d1 ([]:List Int) y22 hy23) hK rfl call13 rfl (by first | rfl | (simp;done) | (simp [PV.nilD,PV.ren,rn];omega)) (by repeat' first | constructor | (congr 1;first | (simp;done) | (simp;omega) | omega)) rfl rfl rfl rfl) ?_;refine wN<|wQ<|wz (tl:=[(2,_),(5,_),(6,_),(7,_),(8,_)]) (to:=[(2,_),(5,_),(8,_),(20520,_),(20521,_),(20522,_),(30160,_)]) ?_;refine wJ (zG h) (fun (v24:Bool) (_:Unit)=>⟨49,[(4,.d (.v (.bool v24)))],[]⟩) (fun h=>?_) ?_
    ·refine PWc.regionE [{ws:=[31]},{ws:=[32]},{ws:=[33]},⟨[34],[8,30160],[8,30160],[],[(30160,[])],[],[30160],[8,30160]⟩,⟨[35],[],[2],[],[],[],[],[]⟩,{ws:=[36]},{ws:=[37]},{ws:=[38]},{ws:=[39]},⟨[40],[],[],[],[],[20520],[],[]⟩,⟨[41],[],[20520,20521,20522],[],[],[],[],[]⟩,⟨[42],[],[5],[],[],[],[],[]⟩,{ws:=[43]},{ws:=[44]},{ws:=[45]},{ws:=[46]},{ws:=[47]},{ws:=[48]},{ws:=[4]}] (by kernel_rfl) (by kernel_rfl) rfl ?_;refine kp (fun _ he ho=>mV (he rfl rfl)) ?_;refine kp (fun _ he ho=>eQ (he rfl rfl) (he rfl rfl)) ?_;refine kp (fun _ he ho=>mV (he rfl rfl)) ?_;obtain ⟨y25,hy26,h⟩:=iDet h;refine PQe.callObj [(100,8),(101,30160)] [] [100,101] (yq y22 y25 hy26) hK (fun _ he=>⟨he rfl rfl,evsE he rfl rfl⟩) call15 (by first | rfl | (simp;done) | (simp [PV.nilD,PV.ren,rn];omega)) (by repeat' first | constructor | (congr 1;first | (simp;done) | (simp;omega) | omega)) rfl rfl rfl rfl (.inr ⟨_,_,_,rfl,rfl,rfl⟩) rfl ?_;refine PQe.stepP (fun _ he ho=>lA (ps:=[_,_,_]) isAgg26 sizeOf26 (he rfl rfl) (ho rfl rfl) rfl rfl) (.inr ⟨_,_,_,rfl,rfl,rfl⟩) rfl ?_;obtain ⟨v27,hy28,h⟩:=iDet h;refine PQe.stepP (fun _ he ho=>cN (UA ([]:List Int) d1 v27 hy28) (he rfl rfl) call16 (evsE he rfl rfl) rfl rfl rfl) (.inr ⟨_,_,_,rfl,rfl,rfl⟩) rfl ?_;obtain ⟨v29,hy30,h⟩:=iDet h;refine PQe.stepP (fun _ he ho=>cN (uK y25.1 v27 v29 hy30) (he rfl rfl) call14 (evsE he rfl rfl) rfl rfl rfl) (.inr ⟨_,_,_,rfl,rfl,rfl⟩) rfl ?_;refine kp (fun _ he ho=>pT (he rfl rfl) (he rfl rfl)) ?_;refine kp (fun _ he ho=>mV (he rfl rfl)) ?_;refine PQe.split (d:=39) rfl (fun hg31=>?_) (fun hg31=>?_)
     ·replace h:=iT hg31 h;refine PQe.stepP (fun _ he ho=>mV (he rfl rfl)) (.inr ⟨_,_,_,rfl,rfl,rfl⟩) rfl ?_;obtain ⟨y32,hy33,h⟩:=iDet h;refine PQe.callObjS [(100,20520),(101,20521),(102,20522)] [] [100,101,102] [] [(100,.cells 98 [.d (.sl (List.map TPart.e z21.1)),.mp 101,.mp 102]),(101,.mapH z21.2.1 [.u16,.u64] true (encM TDot.k TEvent.e z21.2.2.1)),(102,.mapH z21.2.2.2.1 [.u16,.u64] true (encM TDot.k TEvent.e z21.2.2.2.2))] (ue z21.1 z21.2.1 z21.2.2.1 z21.2.2.2.1 z21.2.2.2.2 y32 hy33) hK (fun _ he=>⟨he rfl rfl,evsE he rfl rfl⟩) call17 (by first | rfl | (simp;done) | (simp [PV.nilD,PV.ren,rn];omega)) (by repeat' first | constructor | (congr 1;first | (simp;done) | (simp;omega) | omega)) (.nil) (.cons rfl<|.cons rfl<|.cons rfl<|.nil) (by repeat' first | constructor | (congr 1;first | (simp;done) | (simp;omega) | omega)) rfl rfl rfl rfl rfl rfl (.inr ⟨_,_,_,rfl,rfl,rfl⟩) rfl ?_;refine PQe.stepP (fun _ he ho=>lA (ps:=[_,_]) isAgg32 sizeOf32 (he rfl rfl) (ho rfl rfl) rfl rfl) (.inr ⟨_,_,_,rfl,rfl,rfl⟩) rfl ?_;obtain ⟨v34,hy35,h⟩:=iDet h;refine PQe.stepP (fun _ he ho=>cN (JE v12 v34 hy35) (he rfl rfl) call18 (evsE he rfl rfl) rfl rfl rfl) (.inr ⟨_,_,_,rfl,rfl,rfl⟩) rfl ?_;obtain ⟨v36,hy37,h⟩:=iDet h;refine PQe.stepP (fun _ he ho=>cN (uK y32 v34 v36 hy37) (he rfl rfl) call14 (evsE he rfl rfl) rfl rfl rfl) (.inr ⟨_,_,_,rfl,rfl,rfl⟩) rfl ?_;refine kp (fun _ he ho=>pT (he rfl rfl) (he rfl rfl)) ?_;refine kp (fun _ he ho=>mV (he rfl rfl)) ?_;refine PQe.split (d:=46) rfl (fun hg38=>?_) (fun hg38=>?_)
      ·replace h:=iT hg38 h;obtain ⟨v39,hy40,h⟩:=iDet h;refine PQe.stepP (fun _ he ho=>cN (Wp v39 hy40) (he rfl rfl) call9 (evsE he rfl rfl) rfl rfl rfl) (.inr ⟨_,_,_,rfl,rfl,rfl⟩) rfl ?_;refine kp (fun _ he ho=>pT (he rfl rfl) (he rfl rfl)) ?_;refine kp (fun _ he ho=>aS (he rfl rfl))<|PQe.nil ?_;exact ⟨v39,(),h,sP⟩
      ·replace h:=iF hg38 h;refine kx ?_;refine kp (fun _ he ho=>pF (he rfl rfl) (he rfl rfl)) ?_;refine kp (fun _ he ho=>aS (he rfl rfl))<|PQe.nil ?_;exact ⟨false,(),h,sP⟩
     ·replace h:=iF hg31 h;refine kx<|kx<|kx<|kx<|kx ?_;refine kp (fun _ he ho=>pF (he rfl rfl) (he rfl rfl)) ?_;refine kp (fun _ he ho=>mV (he rfl rfl))<|kx ?_;refine kp (fun _ he ho=>pF (he rfl rfl) (he rfl rfl)) ?_;refine kp (fun _ he ho=>aS (he rfl rfl))<|PQe.nil ?_;exact ⟨false,(),h,sP⟩
    ·rintro v24 _ h;refine wX ?_;cases h;exact ⟨.inr rfl,_,.cons (.tmp rfl rfl)<|.nil,rfl⟩
end Go.Proofs

namespace Go.Ep
open Go

theorem wI64 {n:Int} (h:-9223372036854775808 ≤ n) (h':n ≤ 9223372036854775807):IntKind.i64.wrap n = n:=by simp [IntKind.wrap,IntKind.bits,IntKind.signed];omega
theorem wU64 {n:Int} (h:0 ≤ n) (h':n ≤ 18446744073709551615):IntKind.u64.wrap n = n:=by simp [IntKind.wrap,IntKind.bits,IntKind.signed];omega
theorem wU16 {n:Int} (h:0 ≤ n) (h':n ≤ 65535):IntKind.u16.wrap n = n:=by simp [IntKind.wrap,IntKind.bits,IntKind.signed];omega
theorem wU8 {n:Int} (h:0 ≤ n) (h':n ≤ 255):IntKind.u8.wrap n = n:=by simp [IntKind.wrap,IntKind.bits,IntKind.signed];omega
theorem zc {i:Nat} (h:i < 9223372036854775807):IntKind.i64.wrap ((i:Int) + 1) = ((i + 1:Nat):Int):=by rw [wI64 (by omega) (by omega)];rfl
namespace M
variable {α β σ ρ τ ε:Type}
theorem yP (p:Prop) [Decidable p] (x y:M α):cond (decide p) x y = if p then x else y:=by by_cases h:p <;> simp [h]
theorem vz {body:σ → M (Step σ ρ)} (l:List ε) (mk:Nat → τ → σ) (f:τ → ε → τ) (g:τ → M ρ)
  (I:Nat → τ → Prop) (h1:∀ (i:Nat) (x:ε) (t:τ),l[i]? = some x → i < l.length → I i t → body (mk i t) = pure (.next (mk (i + 1) (f t x))) ∧ I (i + 1) (f t x))
  (h2:∀ t,I l.length t → body (mk l.length t) = (g t).bind fun r=>pure (.done r)) (t0:τ) (h0:I 0 t0):loop body (mk 0 t0) = g (l.foldl f t0):=by
 have key:∀ k i t,i + k = l.length → I i t → loop body (mk i t) = g ((l.drop i).foldl f t):=by
  intro k
  induction k with
  | zero=>
   intro i t hi hI;have:i = l.length:=by omega
   subst this;rw [Ve,h2 t hI,List.drop_length]
   rfl
  | succ k ih=>
   intro i t hi hI;have hlt:i < l.length:=by omega
   obtain ⟨h3,h4⟩:=h1 i l[i] t (List.getElem?_eq_getElem hlt) hlt hI;rw [zd h3,ih (i + 1) _ (by omega) h4,List.drop_eq_getElem_cons hlt]
   rfl
 simpa using key l.length 0 t0 (by omega) h0
theorem loopF {body:σ → M (Step σ ρ)} (l:List ε) (mk:Nat → σ) (p:Nat → ε → Bool) (r:Nat → ε → ρ) (d:M ρ)
  (h1:∀ (i:Nat) (x:ε),l[i]? = some x → i < l.length → body (mk i) = if p i x then pure (.done (r i x)) else pure (.next (mk (i + 1))))
  (h2:body (mk l.length) = d.bind fun r=>pure (.done r)):loop body (mk 0) = match (l.zipIdx).find? (fun y=>p y.2 y.1) with | some y=>pure (r y.2 y.1) | none=>d:=by
 have key:∀ k i,i + k = l.length → loop body (mk i) = match ((l.drop i).zipIdx i).find? (fun y=>p y.2 y.1) with | some y=>pure (r y.2 y.1) | none=>d:=by
  intro k
  induction k with
  | zero=>
   intro i hi;have:i = l.length:=by omega
   subst this;rw [Ve,h2,List.drop_length]
   rfl
  | succ k ih=>
   intro i hi;have hlt:i < l.length:=by omega
   have h3:=h1 i l[i] (List.getElem?_eq_getElem hlt) hlt;rw [List.drop_eq_getElem_cons hlt,List.zipIdx_cons,List.find?_cons]
   by_cases hp:p i l[i] = true
   ·rw [if_pos hp] at h3;rw [ze h3];simp [hp]
   ·rw [if_neg hp] at h3;rw [zd h3,ih (i + 1) (by omega)];simp [hp]
 simpa using key l.length 0 (by omega)
theorem xS {body:σ → M (Step σ ρ)} (l:List ε) (mk:Nat → σ) (p:Nat → ε → Bool) (r1 r2:ρ)
  (h1:∀ (i:Nat) (x:ε),l[i]? = some x → i < l.length → body (mk i) = if p i x then pure (.next (mk (i + 1))) else pure (.done r2))
  (h2:body (mk l.length) = pure (.done r1)):loop body (mk 0) = pure (if l.zipIdx.all (fun y=>p y.2 y.1) then r1 else r2):=by
 have key:∀ k i,i + k = l.length → loop body (mk i) = pure (if ((l.drop i).zipIdx i).all (fun y=>p y.2 y.1) then r1 else r2):=by
  intro k
  induction k with
  | zero=>
   intro i hi;have:i = l.length:=by omega
   subst this;rw [ze h2,List.drop_length]
   rfl
  | succ k ih=>
   intro i hi;have hlt:i < l.length:=by omega
   have h3:=h1 i l[i] (List.getElem?_eq_getElem hlt) hlt;rw [List.drop_eq_getElem_cons hlt,List.zipIdx_cons,List.all_cons]
   by_cases hp:p i l[i] = true
   ·rw [if_pos hp] at h3;rw [zd h3,ih (i + 1) (by omega),hp,Bool.true_and]
   ·rw [if_neg hp] at h3;rw [ze h3];simp [hp]
 have:=key l.length 0 (by omega);rw [List.drop_zero] at this;exact this

def came {ε:Type} (m:List ε) (L:List Nat):List ε:=L.filterMap fun i=>m[i]?
theorem xQa {m:List ε} {L:List Nat} {i:Nat} {y:ε} (h:m[i]? = some y):came m (L ++ [i]) = came m L ++ [y]:=by simp [came,h]
theorem zWa {n:Nat} {L:List Nat} (hn:L.Nodup) (hb:∀ i ∈ L,i < n) (ha:∀ i,i < n → i ∈ L):L.Perm (List.range n):=by
 refine (List.perm_ext_iff_of_nodup hn List.nodup_range).2 fun i=>?_
 rw [List.mem_range];exact ⟨hb i,ha i⟩
theorem xRa {m:List ε} {L:List Nat} (hn:L.Nodup) (hb:∀ i ∈ L,i < m.length) (ha:∀ i,i < m.length → i ∈ L):(came m L).Perm m:=by
 have h1:=(zWa hn hb ha).filterMap fun i=>m[i]?
 have h2:(List.range m.length).filterMap (fun i=>m[i]?) = m:=by
  apply List.ext_getElem?;intro i;clear h1 hn hb ha;have:(List.range m.length).filterMap (fun i=>m[i]?) = m:=by
   induction m with
   | nil=>rfl
   | cons x r ih=>
    rw [List.length_cons,List.range_succ_eq_map,List.filterMap_cons];simp only [List.getElem?_cons_zero,List.filterMap_map]
    congr 1
  rw [this]
 rw [h2] at h1;exact h1
theorem xSa {n:Nat} {L:List Nat} (hn:L.Nodup) (hb:∀ i ∈ L,i < n):L.length ≤ n:=by
 have:=List.Nodup.length_le_of_subset hn (l₂:=List.range n) (fun i hi=>List.mem_range.2 (hb i hi));simpa using this

theorem full {n:Nat} {L:List Nat} (hn:L.Nodup) (hb:∀ i ∈ L,i < n) (hl:n ≤ L.length):∀ i,i < n → i ∈ L:=by
 intro i hi;refine Classical.byContradiction fun hni=>?_
 have:=xSa (n:=n) (L:=i :: L) (List.nodup_cons.2 ⟨hni,hn⟩) (fun j hj=>by
  rcases List.mem_cons.1 hj with rfl | hj
  ·exact hi
  ·exact hb j hj)
 simp at this;omega
theorem loopM {body:σ → M (Step σ ρ)} (m:List ε) (mk:List Nat → τ → σ) (f:τ → ε → M τ) (g:τ → M ρ) (I:List ε → τ → Prop) (Q:ρ → Prop)
  (hb:∀ L t,(∀ i ∈ L,i < m.length) → body (mk L t) = need (∀ i ∈ L,i < m.length) ((nxt m.length L).bind fun o=>match o with
   | none=>(g t).bind fun r=>pure (.done r)
   | some i=>(idx m (Int.ofNat i)).bind fun y=>(f t y).bind fun t'=>pure (.next (mk (L ++ [i]) t'))))
  (hs:∀ l t y,I l t → l.length < m.length → y ∈ m → ∃ t',f t y = pure t' ∧ I (l ++ [y]) t') (he:∀ l t,l.Perm m → I l t → (g t).wp Q) (t0:τ) (h0:I [] t0):(loop body (mk [] t0)).wp Q:=by
 have key:∀ k L t,L.length + k = m.length → L.Nodup → (∀ i ∈ L,i < m.length) → I (came m L) t → jU body Q (mk L t):=by
  intro k
  induction k with
  | zero=>
   intro L t hk hn hlt hI;refine XQ ?_;rw [hb L t hlt];have hall:∀ i,i < m.length → i ∈ L:=fun i hi=>full hn hlt (by omega) i hi
   refine ⟨hlt,⟨⟨none,hall⟩,fun o ho=>?_⟩⟩
   cases o with
   | none=>
    have:=he _ t (xRa hn hlt hall) hI;exact this
   | some i=>exact absurd (hall i ho.1) ho.2
  | succ k ih=>
   intro L t hk hn hlt hI;refine XQ ?_;rw [hb L t hlt];have hex:∃ i,i < m.length ∧ i ∉ L:=by
    refine Classical.byContradiction fun hno=>?_
    have hall:∀ i,i < m.length → i ∈ L:=fun i hi=>Classical.byContradiction fun h=>hno ⟨i,hi,h⟩
    have:=(zWa hn hlt hall).length_eq;simp at this;omega
   obtain ⟨i0,hi0⟩:=hex;refine ⟨hlt,⟨⟨some i0,hi0⟩,fun o ho=>?_⟩⟩
   cases o with
   | none=>exact absurd (ho i0 hi0.1) hi0.2
   | some i=>
    have hi:=List.getElem?_eq_getElem ho.1;obtain ⟨t',h1,h2⟩:=hs (came m L) t m[i] hI (by have:=List.length_filterMap_le (fun i=>m[i]?) L;unfold came;omega) (List.getElem_mem ho.1);show ((idx m (Int.ofNat i)).bind _).wp _;rw [show (Int.ofNat i) = (i:Int) from rfl,zE hi,zA,h1,zA];refine ih (L ++ [i]) t' (by simp;omega) ?_ ?_ (by rw [xQa hi];exact h2)
    ·rw [List.nodup_append];refine ⟨hn,by simp,fun a ha b hb'=>?_⟩;rw [List.mem_singleton.1 hb'];intro e;exact ho.2 (e ▸ ha)
    ·intro j hj;rcases List.mem_append.1 hj with hj | hj
     ·exact hlt j hj
     ·rw [List.mem_singleton.1 hj];exact ho.1
 exact key m.length [] t0 (by simp) List.nodup_nil (by simp) h0

end M

namespace AL
variable {κ ν:Type} [DecidableEq κ]
theorem get_set (m:List (κ × ν)) (k q:κ) (v:ν):get (set m k v) q = if k = q then some v else get m q:=by
 induction m with
 | nil=>simp [set,get]
 | cons x r ih=>
  obtain ⟨a,u⟩:=x
  by_cases h:a = k
  ·subst h;simp only [set,if_true,get];split <;> rfl
  ·simp only [set,h,if_false,get,ih]
   by_cases h2:a = q
   ·subst h2;simp [Ne.symm h]
   ·simp [h2]
theorem getZ_set (m:List (κ × ν)) (k q:κ) (v z:ν):getZ (set m k v) q z = if k = q then v else getZ m q z:=by
 unfold getZ;rw [get_set];split <;> rfl
theorem keys_set (m:List (κ × ν)) (k:κ) (v:ν):(set m k v).map (·.1) = if k ∈ m.map (·.1) then m.map (·.1) else m.map (·.1) ++ [k]:=by
 induction m with
 | nil=>simp [set]
 | cons x r ih=>
  obtain ⟨a,u⟩:=x
  by_cases h:a = k
  ·subst h;simp [set]
  ·simp only [set,h,if_false,List.map_cons,ih,List.mem_cons,Ne.symm h,false_or]
   split <;> simp
theorem nodup_set {m:List (κ × ν)} (h:(m.map (·.1)).Nodup) (k:κ) (v:ν):((set m k v).map (·.1)).Nodup:=by
 rw [keys_set]
 split
 ·exact h
 ·rename_i hk
  rw [List.nodup_append];refine ⟨h,by simp,fun a ha b hb=>?_⟩;rw [List.mem_singleton.1 hb];intro e;exact hk (e ▸ ha)
theorem get_mem {m:List (κ × ν)} {k:κ} {v:ν} (h:get m k = some v):(k,v) ∈ m:=by
 induction m with
 | nil=>simp [get] at h
 | cons x r ih=>
  obtain ⟨a,u⟩:=x
  by_cases e:a = k
  ·subst e;simp [get] at h;subst h;simp
  ·simp only [get,e,if_false] at h;exact List.mem_cons_of_mem _ (ih h)
theorem mem_get {m:List (κ × ν)} (hn:(m.map (·.1)).Nodup) {k:κ} {v:ν} (h:(k,v) ∈ m):get m k = some v:=by
 induction m with
 | nil=>simp at h
 | cons x r ih=>
  obtain ⟨a,u⟩:=x;simp only [List.map_cons,List.nodup_cons] at hn;rcases List.mem_cons.1 h with e | h
  ·cases e;simp [get]
  ·have:a ≠ k:=fun e=>hn.1 (e ▸ List.mem_map.2 ⟨(k,v),h,rfl⟩)
   simp only [get,this,if_false];exact ih hn.2 h
theorem len_set (m:List (κ × ν)) (k:κ) (v:ν):(set m k v).length ≤ m.length + 1:=by
 induction m with
 | nil=>simp [set]
 | cons x r ih=>
  obtain ⟨a,u⟩:=x;unfold set
  split
  ·simp
  ·simpa using ih
end AL
end Go.Ep

namespace Go.Ep.M.V
open Go

def zk (d:TDot):Bool:=decide (1 ≤ d.dev) && (decide (1 ≤ d.n) && decide (d.n ≤ 281474976710655))
theorem xA {d:TDot}:zk d = true ↔ 1 ≤ d.dev ∧ 1 ≤ d.n ∧ d.n ≤ 281474976710655:=by simp [zk]
theorem ZF (d:TDot):ul d = pure (zk d):=by
 unfold ul;rw [zW,zW,zA];refine congrArg pure ?_;rw [Bool.eq_iff_iff,xA];simp only [Bool.and_eq_true,decide_eq_true_eq];omega
theorem wW (d:TDot):vI d = pure (zk d):=by
 unfold vI;rw [zW,zW,zA];refine congrArg pure ?_;rw [Bool.eq_iff_iff,xA];simp only [Bool.and_eq_true,decide_eq_true_eq];omega
theorem UB (a b:List TDot) (h:a.length ≤ 1000000000000):VI a b = pure (decide (a = b)):=by
 unfold VI
 by_cases hl:(a.length:Int) = b.length
 ·simp only [hl,decide_true,Bool.not_true,cond_false];have:=xS (body:=ZA a b) a (fun i=>(i:Int)) (fun i x=>decide (b[i]? = some x)) (.brk ()) (.ret false) (fun i x hx hi=>by
   have hb:i < b.length:=by omega
   unfold ZA;rw [zE hx,zE (List.getElem?_eq_getElem hb),zc (by omega)];simp only [zA,List.getElem?_eq_getElem hb,Option.some.injEq];have:decide ((i:Int) < (a.length:Int)) = true:=by simpa using hi
   rw [this,cond_true]
   by_cases he:b[i] = x
   ·subst he;simp
   ·rw [if_neg (by simpa using he)];have:(decide (x.dev = b[i].dev) && decide (x.n = b[i].n)) = false:=by
     rw [Bool.eq_false_iff];intro hc;simp at hc;apply he
     cases x;cases hh:b[i];simp_all
    rw [this];rfl) (by
   unfold ZA;simp)
  rw [show (0:Int) = ((0:Nat):Int) from rfl,this]
  by_cases he:a = b
  ·subst he;rw [if_pos]
   ·simp [zA,uQ]
   ·rw [List.all_eq_true];intro ⟨x,i⟩ hx;rw [List.mk_mem_zipIdx_iff_getElem?] at hx;simpa using hx
  ·rw [if_neg]
   ·simp [he,zA,Vd]
   ·intro hall;rw [List.all_eq_true] at hall;apply he;apply List.ext_getElem (by omega);intro i h1 h2;have:=hall (a[i],i) (by rw [List.mk_mem_zipIdx_iff_getElem?];exact List.getElem?_eq_getElem h1);simp [h2] at this;exact this.symm
 ·have hne:a ≠ b:=fun e=>hl (by rw [e])
  simp [hl,hne]

def ofV : List TDot → Int → Int
 | [],_=>0
 | d :: r,dev=>if d.dev = dev ∧ zk d = true then max d.n (ofV r dev) else ofV r dev
theorem xTa (v:List TDot) (dev:Int):0 ≤ ofV v dev ∧ ofV v dev ≤ 281474976710655:=by
 induction v with
 | nil=>simp [ofV]
 | cons d r ih=>
  simp only [ofV]
  split
  ·rename_i h;have:=xA.1 h.2;omega
  ·exact ih
theorem ofV_pos {v:List TDot} {dev:Int}:0 < ofV v dev ↔ ∃ d ∈ v,d.dev = dev ∧ zk d = true:=by
 induction v with
 | nil=>simp [ofV]
 | cons d r ih=>
  simp only [ofV,List.mem_cons,exists_eq_or_imp]
  split
  ·rename_i h
   have:=xA.1 h.2
   constructor
   ·intro _;exact .inl h
   ·intro _;omega
  ·rename_i h
   rw [ih]
   constructor
   ·exact .inr
   ·rintro (hh | hh)
    ·exact absurd hh h
    ·exact hh
def insI : List Int → Int → List Int
 | [],k=>[k]
 | a :: r,k=>if k < a then k :: a :: r else if k = a then a :: r else a :: insI r k
theorem VM {l:List Int} {k q:Int}:q ∈ insI l k ↔ q = k ∨ q ∈ l:=by
 induction l with
 | nil=>simp [insI]
 | cons a r ih=>
  unfold insI
  split
  ·simp
  ·split
   ·rename_i h;subst h;simp
   ·simp only [List.mem_cons,ih];constructor
    ·rintro (h | h | h) <;> simp [h]
    ·rintro (h | h | h) <;> simp [h]
theorem vo {l:List Int} (h:l.Pairwise (· < ·)) (k:Int):(insI l k).Pairwise (· < ·):=by
 induction l with
 | nil=>simp [insI]
 | cons a r ih=>
  obtain ⟨h1,h2⟩:=List.pairwise_cons.1 h;unfold insI
  split
  ·rename_i hk
   refine List.pairwise_cons.2 ⟨fun x hx=>?_,h⟩;rcases List.mem_cons.1 hx with rfl | hx
   ·exact hk
   ·have:=h1 x hx;omega
  ·split
   ·exact h
   ·refine List.pairwise_cons.2 ⟨fun x hx=>?_,ih h2⟩;rcases VM.1 hx with rfl | hx
    ·omega
    ·exact h1 x hx
theorem Xs (l : List Int) (k : Int) : (insI l k).length ≤ l.length + 1 := by
  induction l with
  | nil => simp [insI]
  | cons a r ih => unfold insI; split <;> try split
                   all_goals simp_all
def ZG (l:List Int) (d:TDot):List Int:=if zk d then insI l d.dev else l
def xUa (v:List TDot):List Int:=v.foldl ZG []
theorem ZH (v:List TDot):∀ l:List Int,l.Pairwise (· < ·) → (v.foldl ZG l).Pairwise (· < ·) ∧ (∀ k,k ∈ v.foldl ZG l ↔ k ∈ l ∨ ∃ d ∈ v,d.dev = k ∧ zk d = true) ∧ (v.foldl ZG l).length ≤ l.length + v.length:=by
 induction v with
 | nil=>intro l h;simp [h]
 | cons d r ih=>
  intro l h;simp only [List.foldl_cons];unfold ZG
  split
  ·rename_i hg
   obtain ⟨h1,h2,h3⟩:=ih _ (vo h d.dev);refine ⟨h1,fun k=>?_,?_⟩
   ·have:=h2 k;unfold ZG at this;rw [this,VM]
    constructor
    ·rintro ((rfl | h) | ⟨e,he,h⟩)
     ·exact .inr ⟨d,by simp,rfl,hg⟩
     ·exact .inl h
     ·exact .inr ⟨e,by simp [he],h⟩
    ·rintro (h | ⟨e,he,h⟩)
     ·exact .inl (.inr h)
     ·rcases List.mem_cons.1 he with rfl | he
      ·exact .inl (.inl h.1.symm)
      ·exact .inr ⟨e,he,h⟩
   ·have:=Xs l d.dev;simp only [List.length_cons];unfold ZG at h3;omega
  ·rename_i hg
   obtain ⟨h1,h2,h3⟩:=ih _ h;refine ⟨h1,fun k=>?_,?_⟩
   ·have:=h2 k;unfold ZG at this;rw [this]
    constructor
    ·rintro (h | ⟨e,he,h⟩)
     ·exact .inl h
     ·exact .inr ⟨e,by simp [he],h⟩
    ·rintro (h | ⟨e,he,h⟩)
     ·exact .inl h
     ·rcases List.mem_cons.1 he with rfl | he
      ·exact absurd h.2 hg
      ·exact .inr ⟨e,he,h⟩
   ·simp only [List.length_cons];unfold ZG at h3;omega
theorem xf (v:List TDot):(xUa v).Pairwise (· < ·):=(ZH v [] List.Pairwise.nil).1
theorem wg {v:List TDot} {k:Int}:k ∈ xUa v ↔ 0 < ofV v k:=by rw [ofV_pos];simpa [xUa] using (ZH v [] List.Pairwise.nil).2.1 k
theorem zXa (v:List TDot):(xUa v).length ≤ v.length:=by simpa [xUa] using (ZH v [] List.Pairwise.nil).2.2
def vU (m:List (Int × Int)) (d:TDot):List (Int × Int):=if zk d then AL.set m d.dev (max (AL.getZ m d.dev 0) d.n) else m
def vp (v:List TDot):List (Int × Int):=v.foldl vU []
theorem VN (v:List TDot):∀ m:List (Int × Int),(m.map (·.1)).Nodup → ((v.foldl vU m).map (·.1)).Nodup ∧ ((∀ k,0 ≤ AL.getZ m k 0) → ∀ k,AL.getZ (v.foldl vU m) k 0 = max (AL.getZ m k 0) (ofV v k)) ∧ (v.foldl vU m).length ≤ m.length + v.length ∧ (∀ k,k ∈ (v.foldl vU m).map (·.1) → k ∈ m.map (·.1) ∨ 0 < ofV v k):=by
 induction v with
 | nil=>
  intro m h;refine ⟨h,fun h0 k=>?_,by simp,fun k hk=>.inl hk⟩;have:=h0 k;simp only [List.foldl_nil,ofV];omega
 | cons d r ih=>
  intro m h;simp only [List.foldl_cons]
  by_cases hg:zk d = true
  ·have hd:=xA.1 hg;have e:vU m d = AL.set m d.dev (max (AL.getZ m d.dev 0) d.n):=by simp [vU,hg]
   rw [e];obtain ⟨h1,h2,h3,h4⟩:=ih _ (AL.nodup_set h d.dev (max (AL.getZ m d.dev 0) d.n));refine ⟨h1,fun h0 k=>?_,?_,fun k hk=>?_⟩
   ·rw [h2 (fun q=>by rw [AL.getZ_set];have:=h0 q;have:=h0 d.dev;split <;> omega),AL.getZ_set];simp only [ofV]
    by_cases hk:d.dev = k
    ·subst hk;simp only [if_true,hg,and_self];omega
    ·simp [hk]
   ·have:=AL.len_set m d.dev (max (AL.getZ m d.dev 0) d.n);simp only [List.length_cons];omega
   ·simp only [ofV];rcases h4 k hk with h5 | h5
    ·rw [AL.keys_set] at h5
     split at h5
     ·exact .inl h5
     ·rcases List.mem_append.1 h5 with h5 | h5
      ·exact .inl h5
      ·right
       rw [List.mem_singleton.1 h5,if_pos ⟨rfl,hg⟩];omega
    ·right;split <;> omega
  ·have e:vU m d = m:=by simp [vU,hg]
   rw [e];obtain ⟨h1,h2,h3,h4⟩:=ih m h;have e2:∀ k,ofV (d :: r) k = ofV r k:=fun k=>by simp only [ofV];rw [if_neg (fun hh=>hg hh.2)]
   exact ⟨h1,fun h0 k=>by rw [h2 h0,e2],by simp only [List.length_cons];omega,fun k hk=>by rw [e2];exact h4 k hk⟩
theorem Yc (v:List TDot):((vp v).map (·.1)).Nodup:=(VN v [] (by simp)).1
theorem Yd (v:List TDot) (k:Int):AL.getZ (vp v) k 0 = ofV v k:=by
 have:=(VN v [] (by simp)).2.1 (fun _=>Int.le_refl _) k;have h2:=xTa v k;rw [vp,this];show max 0 (ofV v k) = _;omega
theorem zYa (v:List TDot):(vp v).length ≤ v.length:=by simpa [vp] using (VN v [] (by simp)).2.2.1
theorem JF {v:List TDot} {k n:Int} (h:(k,n) ∈ vp v):n = ofV v k ∧ 0 < n:=by
 have h1:=AL.mem_get (Yc v) h;have h2:AL.getZ (vp v) k 0 = n:=by simp [AL.getZ,h1]
 rw [Yd] at h2;have h3:=(VN v [] (by simp)).2.2.2 k (List.mem_map.2 ⟨_,h,rfl⟩);simp at h3;omega
theorem xVa {v:List TDot} {k:Int} (h:0 < ofV v k):(k,ofV v k) ∈ vp v:=by
 have h1:AL.getZ (vp v) k 0 = ofV v k:=Yd v k;unfold AL.getZ at h1
 cases hg:AL.get (vp v) k with
 | none=>rw [hg] at h1;simp at h1;omega
 | some n=>rw [hg] at h1;simp at h1;subst h1;exact AL.get_mem hg

def cmpD (a b:TDot):Int:=if a = b then 0 else if zL a b then -1 else 1
theorem Ye (a b:TDot):Yy a b = pure (cmpD a b):=by
 unfold Yy cmpD;have h1:(decide (a.dev = b.dev) && decide (a.n = b.n)) = decide (a = b):=by
  rw [Bool.eq_iff_iff];cases a;cases b;simp
 have h2:(cond (decide (a.dev < b.dev)) (pure true) (cond (decide (a.dev = b.dev)) (pure (decide (a.n < b.n))) (pure false)):M Bool) = pure (zL a b):=by
  rw [zW,Ju];rfl
 rw [h1,h2,yP,zA]
 split
 ·rfl
 ·cases zL a b <;> rfl
theorem ZI {a b:TDot}:cmpD a b < 0 ↔ zL a b = true:=by
 unfold cmpD
 split
 ·rename_i h;subst h;simp [zL]
 ·split <;> simp_all
theorem cmpD_pos {a b:TDot}:0 < cmpD a b ↔ zL b a = true:=by
 unfold cmpD
 by_cases h:a = b
 ·subst h;simp [zL]
 ·rw [if_neg h]
  cases a;cases b
  simp only [TDot.mk.injEq] at h;simp only [zL,Bool.or_eq_true,Bool.and_eq_true,decide_eq_true_eq]
  split <;> omega
theorem WU (l:List TDot) (d:TDot) (h:l.length ≤ 1000000000000):up l d = pure ((l.filter fun x=>zL x d) ++ [d] ++ (l.filter fun x=>zL d x)):=by
 unfold up;have c0:∀ o:List TDot,o.length ≤ 1000000000000 → True:=fun _ _=>trivial
 have h1:=vz (body:=YJ l d) l (fun i (o:List TDot)=>((i:Int),o)) (fun o x=>if zL x d then o ++ [x] else o) (fun o=>pure o) (fun i o=>o.length ≤ i) (fun i x o hx hi ho=>by
  have h1:decide ((i:Int) < (l.length:Int)) = true:=by simpa using hi
  unfold YJ;simp only [h1,cond_true,zE hx,zA,Ye,zB,zc (show i < 9223372036854775807 by omega),yP,ZI]
  split
  ·rw [zD (by simp;omega)];exact ⟨rfl,by simp;omega⟩
  ·exact ⟨rfl,by omega⟩) (fun o _=>by unfold YJ;simp [zA]) [] (by simp)
 have h2:∀ o0:List TDot,o0.length ≤ 1000000000001 → loop (uW l d) (0,o0) = pure (l.foldl (fun o x=>if zL d x then o ++ [x] else o) o0):=fun o0 ho0=>by
  have:=vz (body:=uW l d) l (fun i (o:List TDot)=>((i:Int),o)) (fun o x=>if zL d x then o ++ [x] else o) (fun o=>pure o) (fun i o=>o.length ≤ o0.length + i) (fun i x o hx hi ho=>by
   have h1:decide ((i:Int) < (l.length:Int)) = true:=by simpa using hi
   unfold uW;simp only [h1,cond_true,zE hx,zA,Ye,zB,zc (show i < 9223372036854775807 by omega),yP,cmpD_pos]
   split
   ·rw [zD (by simp;omega)];exact ⟨rfl,by simp;omega⟩
   ·exact ⟨rfl,by omega⟩) (fun o _=>by unfold uW;simp [zA]) o0 (by simp)
  exact this
 have hf:∀ (p:TDot → Bool) (l o:List TDot),l.foldl (fun o x=>if p x then o ++ [x] else o) o = o ++ l.filter p:=by
  intro p l
  induction l with
  | nil=>simp
  | cons x r ih=>
   intro o;rw [List.foldl_cons,ih,List.filter_cons]
   split <;> simp
 rw [show ((0:Int),([]:List TDot)) = (((0:Nat):Int),[]) from rfl,h1,hf,zA,zD,h2,hf,zA]
 ·rfl
 ·have:=List.length_filter_le (fun x=>zL x d) l;simp;omega
 ·have:=List.length_filter_le (fun x=>zL x d) l;simp;omega
def ones (l:List Int):List TDot:=l.map fun k=>⟨k,1⟩
theorem zZa {l:List Int} (h:l.Pairwise (· < ·)) (k:Int):((ones l).filter fun x=>zL x ⟨k,1⟩) ++ [⟨k,1⟩] ++ ((ones l).filter fun x=>zL ⟨k,1⟩ x) = ones (insI l k):=by
 induction l with
 | nil=>rfl
 | cons a r ih=>
  obtain ⟨h1,h2⟩:=List.pairwise_cons.1 h;have i2:=ih h2;unfold insI
  by_cases c1:k < a
  ·rw [if_pos c1];have e1:(ones (a :: r)).filter (fun x=>zL x ⟨k,1⟩) = []:=by
    rw [List.filter_eq_nil_iff];intro x hx;simp only [ones,List.map_cons,List.mem_cons,List.mem_map] at hx;rcases hx with rfl | ⟨b,hb,rfl⟩
    ·simp [zL];omega
    ·have:=h1 b hb;simp [zL];omega
   have e2:(ones (a :: r)).filter (fun x=>zL ⟨k,1⟩ x) = ones (a :: r):=by
    rw [List.filter_eq_self];intro x hx;simp only [ones,List.map_cons,List.mem_cons,List.mem_map] at hx;rcases hx with rfl | ⟨b,hb,rfl⟩
    ·simp [zL];omega
    ·have:=h1 b hb;simp [zL];omega
   rw [e1,e2];rfl
  ·rw [if_neg c1]
   by_cases c2:k = a
   ·subst c2;rw [if_pos rfl];have e1:(ones (k :: r)).filter (fun x=>zL x ⟨k,1⟩) = []:=by
     rw [List.filter_eq_nil_iff];intro x hx;simp only [ones,List.map_cons,List.mem_cons,List.mem_map] at hx;rcases hx with rfl | ⟨b,hb,rfl⟩
     ·simp [zL]
     ·have:=h1 b hb;simp [zL];omega
    have e2:(ones (k :: r)).filter (fun x=>zL ⟨k,1⟩ x) = ones r:=by
     show List.filter _ (⟨k,1⟩ :: ones r) = _;rw [List.filter_cons,if_neg (by simp [zL]),List.filter_eq_self];intro x hx;simp only [ones,List.mem_map] at hx;obtain ⟨b,hb,rfl⟩:=hx;have:=h1 b hb;simp [zL];omega
    rw [e1,e2];rfl
   ·rw [if_neg c2];show (List.filter _ (⟨a,1⟩ :: ones r)) ++ _ ++ (List.filter _ (⟨a,1⟩ :: ones r)) = ⟨a,1⟩ :: ones (insI r k);rw [List.filter_cons,if_pos (by simp [zL];omega),List.filter_cons,if_neg (by simp [zL];omega),← i2]
    rfl
theorem equal_eq (a b:List TDot) (h:a.length ≤ 1000000000000):yj a b = pure (decide (a = b)):=by
 have e:yj a b = VI a b:=rfl;rw [e,UB a b h]
theorem Qc (a b:List TDot) (h:a.length ≤ 1000000000000):jg a b = pure (decide (a = b)):=by
 unfold jg;rw [equal_eq a b h,zB,zA]
end Go.Ep.M.V

