/- Side texts. -/
import Derived.Test.YtlippfhcakejaaaGreatMBo2
import Derived.Test.YtlippfhcakejaaaGreatMBo3
import Derived.Test.YtlippfhcakejaaaGreatMBo4
import Derived.Test.YtlippfhcakejaaaGreatMBo5
import Derived.Test.YtlippfhcakejaaaGreatMBo6
import Derived.Test.YtlippfhcakejaaaGreatMBo7
set_option linter.unusedVariables false
set_option linter.unusedSimpArgs false
namespace Go.Proofs
open Go.Ep Tryz
set_option maxHeartbeats 1000000
set_option maxRecDepth 100000
set_option linter.unusedVariables false
set_option linter.unusedSimpArgs false


theorem JT (s1:ByteArray) (r0:Bool) (h:(Xz s1).wp (· = r0)):PFun prog 38 [.d (.v (.string s1))] (.d (.v (.bool r0))):=by
 refine fI (sl:=[(0,_)]) func38 rfl ntmps38 rfl rfl ?_;intro ctx hK;refine wQ<|wR<|wa ?_;refine wN<|wQ<|wQ<|wR<|wa ?_;refine wN ?_;refine PWc.jnX (zH h) (fun (_:Unit) (_:Unit)=>⟨23,[(0,.d (.v (.string s1)))],[]⟩) (fun h=>?_) ?_
 ·refine wB<|wM (fun (i19:Int) (_:Unit)=>⟨23,[(0,.d (.v (.string s1))),(3,.d (.v (.int .i64 i19)))],[]⟩) () h (sP) ?_;rintro N i19 _ h;refine wQ<|wQ<|wR<|wm ?_;refine wm ?_;refine ws (LR.lenStr underlying9 rfl)<|ws (LR.lss rfl rfl)<|wN ?_;refine xD h rfl (fun _ h=>?_) (fun _ h=>?_)
  ·refine wK<|wQ<|wB<|wQ ?_;refine wJ (zH h) (fun (v21:Bool) (_:Unit)=>⟨23,[(0,.d (.v (.string s1))),(3,.d (.v (.int .i64 i19))),(19,.d (.v (.bool v21)))],[]⟩) (fun h=>?_) ?_
   ·refine wR<|wm ?_;refine wm ?_;obtain ⟨b22,hy23,h⟩:=zq h;refine ws (LR.strIdx underlying9 rfl rfl hy23)<|ws (LR.lss rfl rfl)<|wm ?_;refine xG (d:=14) h rfl (fun _ h=>?_) (fun _ h=>?_)
    ·refine wf<|wf<|wf<|wf<|ws (pT rfl rfl)<|wN ?_;exact ⟨true,(),h,sP⟩
    ·refine wt (mV rfl)<|wt (mV rfl) ?_;obtain ⟨b25,hy26,h⟩:=zq h;refine wt (LR.strIdx underlying9 rfl rfl hy26)<|wt (LR.gtr rfl rfl)<|ws (pF rfl rfl)<|wN ?_;exact ⟨(decide (126 < b25)),(),h,sP⟩
   ·rintro v21 _ h;refine xD h rfl (fun _ h=>?_) (fun _ h=>?_)
    ·refine wQ<|wR<|wa ?_;refine wN<|wX ?_;cases h;exact xT
    ·refine wK<|wR<|wm ?_;refine ws (LR.addW rfl rfl)<|wa ?_;refine wN ?_;exact ⟨(IntKind.i64.wrap (i19 + 1)),(),h,sP⟩
  ·refine wZ ?_;exact ⟨(),(),h,sP⟩
 ·rintro _ _ h;refine wQ<|wR<|wm ?_;refine ws (LR.lenStr underlying9 rfl)<|ws (LR.leq rfl rfl)<|wa ?_;refine wN<|wX ?_;cases h;exact xT

theorem US (l1:List DT) (r0:Bool) (h:(Ze l1).wp (· = r0)):PFun prog 39 [.d (.sl (List.map DT.e l1))] (.d (.v (.bool r0))):=by
 refine fI (sl:=[(0,_)]) func39 rfl ntmps39 rfl rfl ?_;intro ctx hK;refine wQ<|wR<|wa ?_;refine wN<|wQ<|wQ<|wR<|wa ?_;refine wN ?_;refine PWc.jnX (zH h) (fun (_:Unit) (_:Unit)=>⟨21,[],[]⟩) (fun h=>?_) ?_
 ·refine wB<|wM (fun (i19:Int) (_:Unit)=>⟨21,[(0,.d (.sl (List.map DT.e l1))),(3,.d (.v (.int .i64 i19)))],[]⟩) () h (sP) ?_;rintro N i19 _ h;refine wQ<|wQ<|wR<|wm ?_;refine wm ?_;refine ws (lM (enc:=DT.e) (L:=l1) underlying32 rfl)<|ws (LR.lss rfl rfl)<|wN ?_;refine xD h rfl (fun _ h=>?_) (fun _ h=>?_)
  ·refine wK<|wQ<|wB<|wQ<|wD (by kernel_rfl) (by kernel_rfl)<|qm ?_;refine qm ?_;refine qs (fun _ U W=>LR.subW U U) ?_;obtain ⟨x21,hy22,h⟩:=zq h;refine qs (fun _ U W=>iX (enc:=DT.e) (L:=l1) (y:=x21) underlying32 sizeOf31 U U hy22 (fun _=>rfl)) ?_;refine qs (fun _ U W=>lE (ys:=[_,_]) isAgg31 sizeOf31 U rfl rfl)<|qm ?_;refine qm ?_;obtain ⟨x23,hy24,h⟩:=zq h;refine qs (fun _ U W=>iX (enc:=DT.e) (L:=l1) (y:=x23) underlying32 sizeOf31 U U hy24 (fun _=>rfl)) ?_;refine qs (fun _ U W=>lE (ys:=[_,_]) isAgg31 sizeOf31 U rfl rfl) ?_;obtain ⟨v25,hy26,h⟩:=zY h;refine qs (fun _ U W=>cN (Zh x21 x23 v25 hy26) U call46 (vc (fun a b=>U a b) rfl rfl) rfl rfl rfl) ?_;refine qs (fun _ U W=>LR.geq U U)<|qN ?_;refine xD h rfl (fun _ h=>?_) (fun _ h=>?_)
   ·refine wQ<|wR<|wa ?_;refine wN<|wX ?_;cases h;exact xT
   ·refine wK<|wR<|wm ?_;refine ws (LR.addW rfl rfl)<|wa ?_;refine wN ?_;exact ⟨(IntKind.i64.wrap (i19 + 1)),(),h,sP⟩
  ·refine wZ ?_;exact ⟨(),(),h,sP⟩
 ·rintro _ _ h;refine wQ<|wR<|wa ?_;refine wN<|wX ?_;cases h;exact xT

theorem JU (e1:EV) (r0:Bool) (h:(Zf e1).wp (· = r0)):PFun prog 17 [.agg (List.map .d (EV.e e1))] (.d (.v (.bool r0))):=by
 refine fI (sl:=[(0,_)]) func17 rfl ntmps17 rfl rfl ?_;intro ctx hK;refine wQ<|wR<|ws (LR.box rfl rfl rfl rfl)<|wa ?_;refine wN<|wQ<|wR<|ws (fR underlying34 rfl sizeOf29 (by decide) rfl rfl)<|ws (lD isAgg29 rfl rfl rfl) ?_;obtain ⟨v2,hy3,h⟩:=zY h;refine xN (UR e1.cid v2 hy3) call35<|wm ?_;refine ws (LR.extract rfl rfl)<|ws (LR.extract rfl rfl)<|ws (LR.allocZ (cs:=[_,_]) zeroValue31 rfl rfl rfl rfl)<|ws (sB (ns:=[_,_]) sizeOf31 rfl rfl rfl rfl rfl rfl rfl)<|wa ?_;refine wN<|wQ<|wQ ?_;refine wJ (zH h) (fun (v4:Bool) (_:Unit)=>⟨91,[(1,.ref 1 0),(29,.d (.v (.bool v4)))],[(1,.cells 34 [.d (.v (.int .u16 e1.dot.dev)),.d (.v (.int .u64 e1.dot.n)),.d (.v (.int .u8 e1.kind)),.d (.v (.int .u64 e1.cid)),.d (.v (.int .u8 e1.field)),.d (.v (.string e1.text)),.d (.sl (List.map DT.e e1.kills))])]⟩) (fun h=>?_) ?_
 ·refine wR<|wm ?_;refine ws (LR.not rfl)<|wm ?_;refine xG (d:=14) h rfl (fun _ h=>?_) (fun _ h=>?_)
  ·refine wf<|wf<|wf<|wf<|ws (pT rfl rfl)<|wm ?_;refine wy (tl:=[(1,_),(20,_)]) (to:=[(1,_)]) ?_;refine wf<|wf<|wf<|wf<|wu<|wu<|wu<|wf<|ws (pT rfl rfl) ?_;refine wN ?_;exact ⟨true,(),h,sP⟩
  ·refine wt (fR underlying34 rfl sizeOf31 (by decide) rfl rfl)<|wt (lA (ps:=[_,_]) isAgg31 sizeOf31 rfl rfl rfl rfl) ?_;obtain ⟨v6,hy7,h⟩:=zY h;refine wt (cN (vS e1.dot v6 hy7) rfl call36 rfl rfl rfl rfl)<|wt (LR.not rfl)<|ws (pF rfl rfl)<|wm ?_;refine wy (tl:=[(1,_),(20,_)]) (to:=[(1,_)]) ?_;refine xG (d:=20) h rfl (fun _ h=>?_) (fun _ h=>?_)
   ·refine wf<|wf<|wf<|wf<|wu<|wu<|wu<|wf<|ws (pT rfl rfl) ?_;refine wN ?_;exact ⟨true,(),h,sP⟩
   ·refine wt (fR underlying34 rfl sizeOf5 (by decide) rfl rfl)<|wt (lD isAgg5 rfl rfl rfl)<|wt (nQ rfl rfl)<|wt (mV rfl) ?_;refine xG (d:=24) h rfl (fun _ h=>?_) (fun _ h=>?_)
    ·refine wt (fR underlying34 rfl sizeOf5 (by decide) rfl rfl)<|wt (lD isAgg5 rfl rfl rfl)<|wt (nQ rfl rfl)<|wt (pT rfl rfl)<|ws (pF rfl rfl)<|wN ?_;exact ⟨(!decide (e1.kind = 2)),(),h,sP⟩
    ·refine wf<|wf<|wf<|wt (pF rfl rfl)<|ws (pF rfl rfl)<|wN ?_;exact ⟨false,(),h,sP⟩
 ·rintro v4 _ h;refine xD h rfl (fun _ h=>?_) (fun _ h=>?_)
  ·refine wQ<|wR<|wa ?_;refine wN<|wX ?_;cases h;exact xT
  ·refine wK<|wQ<|wQ ?_;refine wJ (zH h) (fun (v11:Bool) (_:Unit)=>⟨91,[(1,.ref 1 0),(59,.d (.v (.bool v11)))],[(1,.cells 34 [.d (.v (.int .u16 e1.dot.dev)),.d (.v (.int .u64 e1.dot.n)),.d (.v (.int .u8 e1.kind)),.d (.v (.int .u64 e1.cid)),.d (.v (.int .u8 e1.field)),.d (.v (.string e1.text)),.d (.sl (List.map DT.e e1.kills))])]⟩) (fun h=>?_) ?_
   ·refine wR<|ws (fR underlying34 rfl sizeOf5 (by decide) rfl rfl)<|ws (lD isAgg5 rfl rfl rfl)<|ws (eQ rfl rfl)<|wm ?_;refine xG (d:=33) h rfl (fun _ h=>?_) (fun _ h=>?_)
    ·refine wt (fR underlying34 rfl sizeOf5 (by decide) rfl rfl)<|wt (lD isAgg5 rfl rfl rfl) ?_;obtain ⟨v13,hy14,h⟩:=zY h;refine wt (cN (JS e1.field v13 hy14) rfl call37 rfl rfl rfl rfl)<|wt (LR.not rfl)<|wt (mV rfl) ?_;refine xG (d:=38) h rfl (fun _ h=>?_) (fun _ h=>?_)
     ·refine wf<|wf<|wf<|wf<|wt (pT rfl rfl)<|ws (pT rfl rfl)<|wm ?_;refine wf<|wy (tl:=[(1,_),(45,_),(46,_)]) (to:=[(1,_)]) ?_;refine wf<|wf<|wf<|wu<|wu<|wu<|wu<|wu<|wu ?_;refine wu<|wu<|wf<|ws (pT rfl rfl)<|wN ?_;exact ⟨true,(),h,sP⟩
     ·refine wt (fR underlying34 rfl sizeOf9 (by decide) rfl rfl)<|wt (lD isAgg9 rfl rfl rfl) ?_;obtain ⟨v16,hy17,h⟩:=zY h;refine wt (cN (JT e1.text v16 hy17) rfl call38 rfl rfl rfl rfl)<|wt (LR.not rfl)<|wt (pF rfl rfl)<|ws (pT rfl rfl)<|wm ?_;refine xG (d:=45) h rfl (fun _ h=>?_) (fun _ h=>?_)
      ·refine wy (tl:=[(1,_),(45,_)]) (to:=[(1,_)]) ?_;refine wf<|wf<|wf<|wf<|wu<|wu<|wu<|wu<|wu ?_;refine wu<|wu<|wu<|wf<|ws (pT rfl rfl)<|wN ?_;exact ⟨true,(),h,sP⟩
      ·refine wy (tl:=[(1,_),(45,_)]) (to:=[(1,_)]) ?_;refine wt (fR underlying34 rfl sizeOf5 (by decide) rfl rfl)<|wt (lD isAgg5 rfl rfl rfl)<|wt (eQ rfl rfl)<|wt (mV rfl) ?_;refine xG (d:=49) h rfl (fun _ h=>?_) (fun _ h=>?_)
       ·refine wt (fR underlying34 rfl sizeOf5 (by decide) rfl rfl)<|wt (lD isAgg5 rfl rfl rfl)<|wt (nQ rfl rfl)<|wt (mV rfl) ?_;refine xG (d:=53) h rfl (fun _ h=>?_) (fun _ h=>?_)
        ·refine wf<|wf<|wf<|wt (pT rfl rfl)<|wt (pT rfl rfl)<|ws (pF rfl rfl)<|wN ?_;exact ⟨true,(),h,sP⟩
        ·refine wt (fR underlying34 rfl sizeOf9 (by decide) rfl rfl)<|wt (lD isAgg9 rfl rfl rfl)<|wt (LR.neqStr rfl rfl)<|wt (pF rfl rfl)<|wt (pT rfl rfl)<|ws (pF rfl rfl)<|wN ?_;exact ⟨(!decide (e1.text = (⟨#[]⟩:ByteArray))),(),h,sP⟩
       ·refine wf<|wf<|wf<|wf<|wu<|wu<|wu<|wf<|wt (pF rfl rfl) ?_;refine ws (pF rfl rfl)<|wN ?_;exact ⟨false,(),h,sP⟩
    ·refine wf<|wf<|wf<|wf<|wf<|wu<|wu<|wu<|wu ?_;refine wf<|ws (pF rfl rfl)<|wm ?_;refine wt (fR underlying34 rfl sizeOf5 (by decide) rfl rfl)<|wt (lD isAgg5 rfl rfl rfl)<|wy (tl:=[(1,_),(45,_),(47,_)]) (to:=[(1,_)]) ?_;refine wt (eQ rfl rfl)<|wt (mV rfl) ?_;refine xG (d:=49) h rfl (fun _ h=>?_) (fun _ h=>?_)
     ·refine wt (fR underlying34 rfl sizeOf5 (by decide) rfl rfl)<|wt (lD isAgg5 rfl rfl rfl)<|wt (nQ rfl rfl)<|wt (mV rfl) ?_;refine xG (d:=53) h rfl (fun _ h=>?_) (fun _ h=>?_)
      ·refine wf<|wf<|wf<|wt (pT rfl rfl)<|wt (pT rfl rfl)<|ws (pF rfl rfl)<|wN ?_;exact ⟨true,(),h,sP⟩
      ·refine wt (fR underlying34 rfl sizeOf9 (by decide) rfl rfl)<|wt (lD isAgg9 rfl rfl rfl)<|wt (LR.neqStr rfl rfl)<|wt (pF rfl rfl)<|wt (pT rfl rfl)<|ws (pF rfl rfl)<|wN ?_;exact ⟨(!decide (e1.text = (⟨#[]⟩:ByteArray))),(),h,sP⟩
     ·refine wf<|wf<|wf<|wf<|wu<|wu<|wu<|wf<|wt (pF rfl rfl) ?_;refine ws (pF rfl rfl)<|wN ?_;exact ⟨false,(),h,sP⟩
   ·rintro v11 _ h;refine xD h rfl (fun _ h=>?_) (fun _ h=>?_)
    ·refine wQ<|wR<|wa ?_;refine wN<|wX ?_;cases h;exact xT
    ·refine wK<|wQ<|wQ<|wR<|wa ?_;refine wN ?_;refine PWc.jnX (zH h) (fun (_:Unit) (_:Unit)=>⟨91,[(1,.ref 1 0)],[(1,.cells 34 [.d (.v (.int .u16 e1.dot.dev)),.d (.v (.int .u64 e1.dot.n)),.d (.v (.int .u8 e1.kind)),.d (.v (.int .u64 e1.cid)),.d (.v (.int .u8 e1.field)),.d (.v (.string e1.text)),.d (.sl (List.map DT.e e1.kills))])]⟩) (fun h=>?_) ?_
     ·refine wB<|wM (fun (i37:Int) (_:Unit)=>⟨91,[(1,.ref 1 0),(5,.d (.v (.int .i64 i37)))],[(1,.cells 34 [.d (.v (.int .u16 e1.dot.dev)),.d (.v (.int .u64 e1.dot.n)),.d (.v (.int .u8 e1.kind)),.d (.v (.int .u64 e1.cid)),.d (.v (.int .u8 e1.field)),.d (.v (.string e1.text)),.d (.sl (List.map DT.e e1.kills))])]⟩) () h (sP) ?_;rintro N i37 _ h;refine wQ<|wQ<|wR<|wm ?_;refine ws (fR underlying34 rfl sizeOf32 (by decide) rfl rfl)<|ws (lD isAgg32 rfl rfl rfl)<|ws (lM (enc:=DT.e) (L:=e1.kills) underlying32 rfl)<|ws (LR.lss rfl rfl)<|wN ?_;refine xD h rfl (fun _ h=>?_) (fun _ h=>?_)
      ·refine wK<|wQ<|wB<|wQ<|wR<|ws (fR underlying34 rfl sizeOf32 (by decide) rfl rfl)<|ws (lD isAgg32 rfl rfl rfl)<|wm ?_;obtain ⟨x39,hy40,h⟩:=zq h;refine ws (iX (enc:=DT.e) (L:=e1.kills) (y:=x39) underlying32 sizeOf31 rfl rfl hy40 (fun _=>rfl))<|ws (lE (ys:=[_,_]) isAgg31 sizeOf31 rfl rfl rfl) ?_;obtain ⟨v41,hy42,h⟩:=zY h;refine xN (vS x39 v41 hy42) call36<|ws (LR.not rfl)<|wN ?_;refine xD h rfl (fun _ h=>?_) (fun _ h=>?_)
       ·refine wQ<|wR<|wa ?_;refine wN<|wX ?_;cases h;exact xT
       ·refine wK<|wR<|wm ?_;refine ws (LR.addW rfl rfl)<|wa ?_;refine wN ?_;exact ⟨(IntKind.i64.wrap (i37 + 1)),(),h,sP⟩
      ·refine wZ ?_;exact ⟨(),(),h,sP⟩
     ·rintro _ _ h;refine wQ ?_;refine wJ (zH h) (fun (v44:Bool) (_:Unit)=>⟨91,[(2,.d (.v (.bool v44)))],[]⟩) (fun h=>?_) ?_
      ·refine wR<|ws (fR underlying34 rfl sizeOf32 (by decide) rfl rfl)<|ws (lD isAgg32 rfl rfl rfl)<|ws (lM (enc:=DT.e) (L:=e1.kills) underlying32 rfl)<|ws (LR.leq rfl rfl)<|wm ?_;refine xG (d:=78) h rfl (fun _ h=>?_) (fun _ h=>?_)
       ·refine wt (fR underlying34 rfl sizeOf32 (by decide) rfl rfl)<|wt (lD isAgg32 rfl rfl rfl) ?_;obtain ⟨v46,hy47,h⟩:=zY h;refine wt (cN (US e1.kills v46 hy47) rfl call39 rfl rfl rfl rfl)<|ws (pT rfl rfl)<|wm ?_;refine xG (d:=83) h rfl (fun _ h=>?_) (fun _ h=>?_)
        ·refine wt (fR underlying34 rfl sizeOf32 (by decide) rfl rfl)<|wt (lD isAgg32 rfl rfl rfl)<|wt (fR underlying34 rfl sizeOf31 (by decide) rfl rfl)<|wt (lA (ps:=[_,_]) isAgg31 sizeOf31 rfl rfl rfl rfl) ?_;obtain ⟨v49,hy50,h⟩:=zY h;refine wt (cN (Zi e1.kills e1.dot v49 hy50) rfl call8 rfl rfl rfl rfl)<|wt (LR.not rfl)<|ws (pT rfl rfl)<|wa ?_;refine wN ?_;exact ⟨(!v49),(),h,sP⟩
        ·refine wf<|wf<|wf<|wf<|wf<|wf<|ws (pF rfl rfl)<|wa ?_;refine wN ?_;exact ⟨false,(),h,sP⟩
       ·refine wf<|wf<|wf<|ws (pF rfl rfl)<|wm ?_;refine wf<|wf<|wf<|wf<|wf<|wf<|ws (pF rfl rfl)<|wa ?_;refine wN ?_;exact ⟨false,(),h,sP⟩
      ·rintro v44 _ h;refine wX ?_;cases h;exact xT

theorem Xj (l1:List EV) (from2:Int) (r0:Bool) (h:(wn l1 from2).wp (· = r0)):PFun prog 3 [.d (.sl (List.map EV.e l1)),.d (.v (.int .u8 from2))] (.d (.v (.bool r0))):=by
 refine fI (sl:=[(0,_),(1,_)]) func3 rfl ntmps3 rfl rfl ?_;intro ctx hK;refine wQ<|wR<|wa ?_;refine wN<|wQ<|wQ ?_;refine wJ (zH h) (fun (v3:Bool) (_:Unit)=>⟨140,[(0,.d (.sl (List.map EV.e l1))),(1,.d (.v (.int .u8 from2))),(19,.d (.v (.bool v3)))],[]⟩) (fun h=>?_) ?_
 ·refine wR<|wm ?_;obtain ⟨v4,hy5,h⟩:=zY h;refine xN (QM l1 12 v4 hy5) call4<|ws (LR.not rfl)<|wm ?_;refine xG (d:=15) h rfl (fun _ h=>?_) (fun _ h=>?_)
  ·refine wf<|wf<|wf<|ws (pT rfl rfl)<|wN ?_;exact ⟨true,(),h,sP⟩
  ·refine wt (mV rfl) ?_;obtain ⟨v7,hy8,h⟩:=zY h;refine wt (cN (UJ l1 v7 hy8) rfl call5 rfl rfl rfl rfl)<|wt (LR.not rfl)<|ws (pF rfl rfl)<|wN ?_;exact ⟨(!v7),(),h,sP⟩
 ·rintro v3 _ h;refine xD h rfl (fun _ h=>?_) (fun _ h=>?_)
  ·refine wQ<|wR ?_;obtain ⟨v10,hy11,h⟩:=zY h;refine xN (uz v10 hy11) call6<|wa ?_;refine wN<|wX ?_;cases h;exact xT
  ·refine wK<|wQ<|wR<|wm ?_;obtain ⟨v12,hy13,h⟩:=zY h;refine ws (LR.rowN (JO l1 v12 hy13) rfl call7 rfl rfl rfl rfl)<|wa ?_;refine wN<|wQ<|wQ<|wR<|wa ?_;refine wN ?_;refine wJ (zH h) (fun (v14:List EV) (_:Unit)=>⟨140,[(1,.d (.v (.int .u8 from2))),(5,.row 22 (v14.length))],[(22,.row 34 7 (List.map EV.e v14))]⟩) (fun h=>?_) ?_
   ·refine wB<|wM (fun (⟨i143,v144⟩:Int × List EV) (_:Unit)=>⟨140,[(1,.d (.v (.int .u8 from2))),(5,.row 22 (v144.length)),(6,.d (.v (.int .i64 i143)))],[(22,.row 34 7 (List.map EV.e v144))]⟩) () h (sP) ?_;rintro N ⟨i143,v144⟩ _ h;refine wQ<|wQ<|wR<|wm ?_;refine wm ?_;refine ws (LR.lenRow underlying22 rfl)<|ws (LR.lss rfl rfl)<|wN ?_;refine xD h rfl (fun _ h=>?_) (fun _ h=>?_)
    ·refine wK<|wQ ?_;refine wJ (zH h) (fun (v146:List EV) (_:Unit)=>⟨140,[(1,.d (.v (.int .u8 from2))),(5,.row 22 (v146.length)),(6,.d (.v (.int .i64 i143)))],[(22,.row 34 7 (List.map EV.e v146))]⟩) (fun h=>?_) ?_
     ·refine wB<|wQ<|wR<|wa ?_;refine wN<|wB<|wM (fun (⟨k187,v188⟩:Int × List EV) (_:Unit)=>⟨140,[(1,.d (.v (.int .u8 from2))),(5,.row 22 (v188.length)),(6,.d (.v (.int .i64 i143))),(7,.d (.v (.int .i64 k187)))],[(22,.row 34 7 (List.map EV.e v188))]⟩) () h (sP) ?_;rintro N ⟨k187,v188⟩ _ h;refine wQ<|wQ<|wR<|wm ?_;refine wm ?_;refine ws (LR.lenRow underlying22 rfl)<|ws (LR.lss rfl rfl)<|wN ?_;refine xD h rfl (fun _ h=>?_) (fun _ h=>?_)
      ·refine wK<|wQ ?_;refine wJ (zH h) (fun (v190:List EV) (_:Unit)=>⟨140,[(1,.d (.v (.int .u8 from2))),(5,.row 22 (v190.length)),(6,.d (.v (.int .i64 i143))),(7,.d (.v (.int .i64 k187)))],[(22,.row 34 7 (List.map EV.e v190))]⟩) (fun h=>?_) ?_
       ·refine wB<|wQ<|wD (by kernel_rfl) (by kernel_rfl)<|qm ?_;refine qm ?_;obtain ⟨x191,hy192,h⟩:=zq h;refine qs (fun _ U W=>LR.idxRowT (L:=v188) (y:=x191) underlying22 sizeOf34 U rfl U hy192) ?_;refine qs (fun _ U W=>LR.fieldRp underlying34 rfl sizeOf32 (by decide) rfl U) ?_;refine qs (fun _ U W=>LR.loadRpF (enc:=EV.e) (L:=v188) (y:=x191) isAgg32 U (W rfl) hy192.2 rfl)<|qm ?_;refine qm ?_;obtain ⟨x193,hy194,h⟩:=zq h;refine qs (fun _ U W=>LR.idxRowT (L:=v188) (y:=x193) underlying22 sizeOf34 U rfl U hy194) ?_;refine qs (fun _ U W=>LR.fieldRp underlying34 rfl sizeOf31 (by decide) rfl U) ?_;refine qs (fun _ U W=>LR.loadRpPartT (enc:=EV.e) (L:=v188) (y:=x193) isAgg31 sizeOf31 U (W rfl) hy194.2 rfl rfl) ?_;obtain ⟨v195,hy196,h⟩:=zY h;refine qs (fun _ U W=>cN (Zi x191.kills x193.dot v195 hy196) U call8 (vc (fun a b=>U a b) rfl rfl) rfl rfl rfl)<|qN ?_;refine xD h rfl (fun _ h=>?_) (fun _ h=>?_)
        ·refine wz (tl:=[(1,_),(5,_),(6,_),(7,_)]) (to:=[(22,_)]) ?_;refine PWc.regionE [⟨[46],[],[],[],[],[22],[],[]⟩,{ws:=[47]},⟨[48],[48],[],[48],[],[48],[],[]⟩,⟨[49],[],[],[],[],[22],[],[]⟩,{ws:=[50]},⟨[51],[],[],[],[],[22],[],[]⟩,⟨[52],[],[],[],[],[22],[],[]⟩,⟨[53],[],[22],[],[],[],[],[]⟩,⟨[48,54],[48],[48],[],[(48,[48])],[48],[],[]⟩,⟨[55],[],[],[],[],[22],[],[]⟩,{ws:=[56]},⟨[57],[],[],[],[],[22],[],[]⟩,⟨[58],[],[],[],[],[22],[],[]⟩,⟨[59],[],[22],[],[],[],[],[]⟩,⟨[48,54,60],[48],[48],[],[(48,[48,54])],[],[],[]⟩,{ws:=[61]},⟨[62],[],[],[],[],[22],[],[]⟩,⟨[63],[],[],[],[],[22],[],[]⟩,⟨[],[22],[22],[],[],[],[],[]⟩] (by kernel_rfl) (by kernel_rfl) rfl<|km ?_;refine km ?_;refine PQe.stepN (fun _ U W hf=>LR.buildSlice [] vJ rfl rfl (.nil) (by decide) (by decide) hf) rfl (.inl rfl) rfl<|km ?_;refine km ?_;obtain ⟨x198,hy199,h⟩:=zq h;refine kp (fun _ U W=>LR.idxRowT (L:=v188) (y:=x198) underlying22 sizeOf34 U rfl U hy199) ?_;refine kp (fun _ U W=>LR.fieldRp underlying34 rfl sizeOf32 (by decide) rfl U) ?_;refine kp (fun _ U W=>LR.loadRpF (enc:=EV.e) (L:=v188) (y:=x198) isAgg32 U (W rfl rfl) hy199.2 rfl) ?_;obtain ⟨hy200,h⟩:=zw h;refine PQe.stepA [48] (fun _ U W ha=>LR.appT (enc:=DT.e) (L:=([]:List DT)) (R:=x198.kills) [48] vJ underlying32 (U rfl rfl) (by first | (simp;done) | (simp;omega) | omega) (W rfl rfl) (Src.slT (enc:=DT.e) (R:=x198.kills) (U rfl rfl) (fun _=>rfl)) (fun _=>rfl) hy200 rfl ha) rfl (.inl rfl) rfl ?_;refine km ?_;refine km ?_;obtain ⟨x201,hy202,h⟩:=zq h;refine kp (fun _ U W=>LR.idxRowT (L:=v188) (y:=x201) underlying22 sizeOf34 U rfl U hy202) ?_;refine kp (fun _ U W=>LR.fieldRp underlying34 rfl sizeOf32 (by decide) rfl U) ?_;refine kp (fun _ U W=>LR.loadRpF (enc:=EV.e) (L:=v188) (y:=x201) isAgg32 U (W rfl rfl) hy202.2 rfl) ?_;obtain ⟨hy203,h⟩:=zw h;refine PQe.stepA [48,54] (fun _ U W ha=>LR.appTD (enc:=DT.e) (L:=(([]:List DT) ++ x198.kills)) (R:=x201.kills) [48,54] hK vJ underlying32 (U rfl rfl) rfl (W rfl rfl) (Src.slT (enc:=DT.e) (R:=x201.kills) (U rfl rfl) (fun _=>rfl)) (fun _=>rfl) hy203 rfl ha) rfl (.inl rfl) rfl ?_;obtain ⟨v204,hy205,h⟩:=zY h;refine kp (fun _ U W=>cN (JP (((([]:List DT) ++ x198.kills) ++ x201.kills)) v204 hy205) U call9 (vc (fun a b=>U a b) rfl rfl) rfl rfl rfl) ?_;obtain ⟨x206,hy207,h⟩:=zq h;refine kp (fun _ U W=>LR.idxRowT (L:=v188) (y:=x206) underlying22 sizeOf34 U rfl U hy207) ?_;refine kp (fun _ U W=>LR.fieldRp underlying34 rfl sizeOf32 (by decide) rfl U) ?_;refine ks (fun _ U W=>LR.storeRpT (enc:=EV.e) (L:=v188) (a:=x206) (b:=(⟨x206.dot,x206.kind,x206.cid,x206.field,x206.text,v204⟩:EV)) sizeOf32 U U rfl rfl (W rfl rfl) hy207.2 rfl rfl)<|PQe.nil ?_;exact ⟨(List.set v188 (Int.toNat i143) (⟨x206.dot,x206.kind,x206.cid,x206.field,x206.text,v204⟩:EV)),(),h,sO rfl (.cons rfl rfl<|.cons rfl (by first | rfl | (simp;done) | (congr 1;first | (simp;done) | (simp;omega) | omega))<|.c2 rfl rfl rfl rfl<|.nil) (.cons rfl rfl<|.nil)⟩
        ·refine wK ?_;exact ⟨v188,(),h,sP⟩
       ·rintro v190 _ h;refine wR<|wm ?_;refine ws (LR.addW rfl rfl)<|wa ?_;refine wN ?_;exact ⟨((IntKind.i64.wrap (k187 + 1)),v190),(),h,sP⟩
      ·refine wZ ?_;exact ⟨v188,(),h,sP⟩
     ·rintro v146 _ h;refine wR<|wm ?_;refine ws (LR.addW rfl rfl)<|wa ?_;refine wN ?_;exact ⟨((IntKind.i64.wrap (i143 + 1)),v146),(),h,sP⟩
    ·refine wZ ?_;exact ⟨v144,(),h,sP⟩
   ·rintro v14 _ h;refine wQ<|wQ<|wR<|wm ?_;obtain ⟨v208,hy209,h⟩:=zY h;refine PWl.frz [5,64] hK (.cons rfl<|.cons rfl<|.nil) rfl (by simp) ?_;refine xN (UQ v14 v208 hy209) call10<|ws (LR.not rfl)<|wN ?_;refine xD h rfl (fun _ h=>?_) (fun _ h=>?_)
    ·refine wQ<|wR ?_;obtain ⟨v211,hy212,h⟩:=zY h;refine xN (uz v211 hy212) call6<|wa ?_;refine wN<|wX ?_;cases h;exact xT
    ·refine wK<|wQ<|wR ?_;obtain ⟨y213,hy214,h⟩:=zY h;refine xO [(2,68),(30041,21361),(30042,21362)] [] [2,30041,30042] (uW y213 hy214) call11 ?_;obtain ⟨y215,hy216,h⟩:=zY h;refine xO [(2,69),(30041,21381),(30042,21382)] [] [2,30041,30042] (uW y215 hy216) call11<|wy (tl:=[(1,_),(5,_),(68,_),(69,_)]) (to:=[(68,_),(69,_),(21361,_),(21362,_),(21381,_),(21382,_)]) ?_;refine wa ?_;refine wa ?_;refine wN<|wQ<|wQ<|wR<|wa ?_;refine wN ?_;refine wJ (zH h) (fun (⟨v217,nl218,v219,nl220,v221,v222,nl223,v224,nl225,v226⟩:List PT × Bool × (List (DT × EV)) × Bool × (List (DT × EV)) × List PT × Bool × (List (DT × EV)) × Bool × (List (DT × EV))) (_:Unit)=>⟨140,[(5,.d (.sl (List.map EV.e v14))),(8,.ref 68 0),(9,.ref 69 0)],[(68,.cells 57 [.d (.sl (List.map PT.e v222)),.mp 21361,.mp 21362]),(69,.cells 57 [.d (.sl (List.map PT.e v217)),.mp 21381,.mp 21382]),(21361,.mapH nl225 [.u16,.u64] true (zN DT.k EV.e v226)),(21362,.mapH nl223 [.u16,.u64] true (zN DT.k EV.e v224)),(21381,.mapH nl220 [.u16,.u64] true (zN DT.k EV.e v221)),(21382,.mapH nl218 [.u16,.u64] true (zN DT.k EV.e v219))]⟩) (fun h=>?_) ?_
     ·refine wB<|wM (fun (⟨i258,v259,nl260,v261,nl262,v263,v264,nl265,v266,nl267,v268⟩:Int × List PT × Bool × (List (DT × EV)) × Bool × (List (DT × EV)) × List PT × Bool × (List (DT × EV)) × Bool × (List (DT × EV))) (_:Unit)=>⟨140,[(1,.d (.v (.int .u8 from2))),(5,.d (.sl (List.map EV.e v14))),(8,.ref 68 0),(9,.ref 69 0),(10,.d (.v (.int .i64 i258)))],[(68,.cells 57 [.d (.sl (List.map PT.e v264)),.mp 21361,.mp 21362]),(69,.cells 57 [.d (.sl (List.map PT.e v259)),.mp 21381,.mp 21382]),(21361,.mapH nl267 [.u16,.u64] true (zN DT.k EV.e v268)),(21362,.mapH nl265 [.u16,.u64] true (zN DT.k EV.e v266)),(21381,.mapH nl262 [.u16,.u64] true (zN DT.k EV.e v263)),(21382,.mapH nl260 [.u16,.u64] true (zN DT.k EV.e v261))]⟩) () h (sP) ?_;rintro N ⟨i258,v259,nl260,v261,nl262,v263,v264,nl265,v266,nl267,v268⟩ _ h;refine wQ<|wQ<|wR<|wm ?_;refine wm ?_;refine ws (lM (enc:=EV.e) (L:=v14) underlying22 rfl)<|ws (LR.lss rfl rfl)<|wN ?_;refine xD h rfl (fun _ h=>?_) (fun _ h=>?_)
      ·refine wK<|wQ<|wB<|wQ<|wR<|wm ?_;refine wm ?_;refine wm ?_;obtain ⟨x270,hy271,h⟩:=zq h;refine ws (iX (enc:=EV.e) (L:=v14) (y:=x270) underlying22 sizeOf34 rfl rfl hy271 (fun _=>rfl))<|ws (lE (ys:=[_,_,_,_,_,_,_]) isAgg34 sizeOf34 rfl rfl rfl) ?_;obtain ⟨y272,hy273,h⟩:=zY h;refine xO [(100,68),(101,21361),(102,21362)] [] [100,101,102] (yT x270 v264 nl267 v268 nl265 v266 y272 hy273) call12<|wN<|wz (tl:=[(1,_),(5,_),(8,_),(9,_),(10,_)]) (to:=[(68,_),(69,_),(21361,_),(21362,_),(21381,_),(21382,_)]) ?_;refine wR<|wm ?_;refine wm ?_;refine wm ?_;refine ws (lM (enc:=EV.e) (L:=v14) underlying22 rfl)<|ws (LR.subW rfl rfl)<|wm ?_;refine ws (LR.subW rfl rfl)<|wm ?_;refine ws (LR.convInt underlying3 (by rw [underlying5];rfl) rfl rfl) ?_;refine ws (LR.addW rfl rfl)<|wm ?_;refine ws (lM (enc:=EV.e) (L:=v14) underlying22 rfl) ?_;obtain ⟨hy274,h⟩:=zw h;refine ws (LR.rem rfl rfl hy274) ?_;obtain ⟨x275,hy276,h⟩:=zq h;refine ws (iX (enc:=EV.e) (L:=v14) (y:=x275) underlying22 sizeOf34 rfl rfl hy276 (fun _=>rfl))<|ws (lE (ys:=[_,_,_,_,_,_,_]) isAgg34 sizeOf34 rfl rfl rfl) ?_;obtain ⟨y277,hy278,h⟩:=zY h;refine xO [(100,69),(101,21381),(102,21382)] [] [100,101,102] (yT x275 v259 nl262 v263 nl260 v261 y277 hy278) call12<|wN<|wz (tl:=[(1,_),(5,_),(8,_),(9,_),(10,_)]) (to:=[(68,_),(69,_),(21361,_),(21362,_),(21381,_),(21382,_)]) ?_;refine wR<|wm ?_;refine ws (LR.addW rfl rfl)<|wa ?_;refine wN ?_;exact ⟨((IntKind.i64.wrap (i258 + 1)),y277.2.1,y277.2.2.2.2.1,y277.2.2.2.2.2,y277.2.2.1,y277.2.2.2.1,y272.2.1,y272.2.2.2.2.1,y272.2.2.2.2.2,y272.2.2.1,y272.2.2.2.1),(),h,sP⟩
      ·refine wZ ?_;exact ⟨(v259,nl260,v261,nl262,v263,v264,nl265,v266,nl267,v268),(),h,sP⟩
     ·rintro ⟨v217,nl218,v219,nl220,v221,v222,nl223,v224,nl225,v226⟩ _ h;refine wQ<|wQ ?_;refine wJ (zH h) (fun (v279:Bool) (_:Unit)=>⟨140,[(5,.d (.sl (List.map EV.e v14))),(8,.ref 68 0),(9,.ref 69 0),(111,.d (.v (.bool v279)))],[(68,.cells 57 [.d (.sl (List.map PT.e v222)),.mp 21361,.mp 21362]),(69,.cells 57 [.d (.sl (List.map PT.e v217)),.mp 21381,.mp 21382]),(21361,.mapH nl225 [.u16,.u64] true (zN DT.k EV.e v226)),(21362,.mapH nl223 [.u16,.u64] true (zN DT.k EV.e v224)),(21381,.mapH nl220 [.u16,.u64] true (zN DT.k EV.e v221)),(21382,.mapH nl218 [.u16,.u64] true (zN DT.k EV.e v219))]⟩) (fun h=>?_) ?_
      ·refine wR<|wm ?_;obtain ⟨y280,hy281,h⟩:=zY h;refine ws (LR.callObjS [(100,68),(101,21361),(102,21362)] [] [100,101,102] [] [(100,.cells 57 [.d (.sl (List.map PT.e v222)),.mp 101,.mp 102]),(101,.mapH nl225 [.u16,.u64] true (zN DT.k EV.e v226)),(102,.mapH nl223 [.u16,.u64] true (zN DT.k EV.e v224))] (ye v222 nl225 v226 nl223 v224 y280 hy281) hK rfl call14 rfl (by first | rfl | (simp;done) | (simp [PV.nilD,PV.ren,rn] <;> omega)) (by repeat' first | constructor | (congr 1;first | (simp;done) | (simp;omega) | omega)) (.nil) (.cons rfl<|.cons rfl<|.cons rfl<|.nil) (by repeat' first | constructor | (congr 1;first | (simp;done) | (simp;omega) | omega)) rfl rfl rfl rfl rfl rfl) ?_;refine wy (tl:=[(5,_),(8,_),(9,_),(99,_)]) (to:=[(68,_),(69,_),(21361,_),(21362,_),(21381,_),(21382,_)]) ?_;refine wm ?_;obtain ⟨y282,hy283,h⟩:=zY h;refine ws (LR.callObjS [(100,69),(101,21381),(102,21382)] [] [100,101,102] [] [(100,.cells 57 [.d (.sl (List.map PT.e v217)),.mp 101,.mp 102]),(101,.mapH nl220 [.u16,.u64] true (zN DT.k EV.e v221)),(102,.mapH nl218 [.u16,.u64] true (zN DT.k EV.e v219))] (ye v217 nl220 v221 nl218 v219 y282 hy283) hK rfl call14 rfl (by first | rfl | (simp;done) | (simp [PV.nilD,PV.ren,rn] <;> omega)) (by repeat' first | constructor | (congr 1;first | (simp;done) | (simp;omega) | omega)) (.nil) (.cons rfl<|.cons rfl<|.cons rfl<|.nil) (by repeat' first | constructor | (congr 1;first | (simp;done) | (simp;omega) | omega)) rfl rfl rfl rfl rfl rfl) ?_;refine wy (tl:=[(5,_),(8,_),(9,_),(99,_),(101,_)]) (to:=[(68,_),(69,_),(21361,_),(21362,_),(21381,_),(21382,_)]) ?_;obtain ⟨v284,hy285,h⟩:=zY h;refine xN (zma y280 y282 v284 hy285) call13<|ws (LR.not rfl)<|wm ?_;refine xG (d:=104) h rfl (fun _ h=>?_) (fun _ h=>?_)
       ·refine wf<|wf<|wf<|wf<|wf<|wf<|ws (pT rfl rfl)<|wN ?_;exact ⟨true,(),h,sP⟩
       ·refine wt (mV rfl) ?_;obtain ⟨y287,hy288,h⟩:=zY h;refine wt (LR.callObjS [(100,68),(101,21361),(102,21362),(10,106)] [] [100,101,102,10] [(10,.row 34 7 (List.map EV.e y287))] [(100,.cells 57 [.d (.sl (List.map PT.e v222)),.mp 101,.mp 102]),(101,.mapH nl225 [.u16,.u64] true (zN DT.k EV.e v226)),(102,.mapH nl223 [.u16,.u64] true (zN DT.k EV.e v224))] (zb v222 nl225 v226 nl223 v224 y287 hy288) hK rfl call16 rfl (by first | rfl | (simp;done) | (simp [PV.nilD,PV.ren,rn] <;> omega)) (by repeat' first | constructor | (congr 1;first | (simp;done) | (simp;omega) | omega)) (.cons rfl<|.nil) (.cons rfl<|.cons rfl<|.cons rfl<|.nil) (by repeat' first | constructor | (congr 1;first | (simp;done) | (simp;omega) | omega)) rfl rfl rfl rfl rfl rfl) ?_;refine wy (tl:=[(5,_),(8,_),(9,_),(104,_),(106,_)]) (to:=[(68,_),(69,_),(106,_),(21361,_),(21362,_),(21381,_),(21382,_)]) ?_;refine wt (mV rfl) ?_;obtain ⟨y289,hy290,h⟩:=zY h;refine wt (LR.callObjS [(100,69),(101,21381),(102,21382),(10,108)] [] [100,101,102,10] [(10,.row 34 7 (List.map EV.e y289))] [(100,.cells 57 [.d (.sl (List.map PT.e v217)),.mp 101,.mp 102]),(101,.mapH nl220 [.u16,.u64] true (zN DT.k EV.e v221)),(102,.mapH nl218 [.u16,.u64] true (zN DT.k EV.e v219))] (zb v217 nl220 v221 nl218 v219 y289 hy290) hK rfl call16 rfl (by first | rfl | (simp;done) | (simp [PV.nilD,PV.ren,rn] <;> omega)) (by repeat' first | constructor | (congr 1;first | (simp;done) | (simp;omega) | omega)) (.cons rfl<|.nil) (.cons rfl<|.cons rfl<|.cons rfl<|.nil) (by repeat' first | constructor | (congr 1;first | (simp;done) | (simp;omega) | omega)) rfl rfl rfl rfl rfl rfl) ?_;refine wy (tl:=[(5,_),(8,_),(9,_),(104,_),(106,_),(108,_)]) (to:=[(68,_),(69,_),(106,_),(108,_),(21361,_),(21362,_),(21381,_),(21382,_)]) ?_;obtain ⟨v291,hy292,h⟩:=zY h;refine PWl.frz [106] hK (.cons rfl<|.nil) rfl (by simp) ?_;refine PWl.frz [108] hK (.cons rfl<|.nil) rfl (by simp) ?_;refine wt (cN (Vg y287 y289 v291 hy292) rfl call15 rfl rfl rfl rfl)<|wt (LR.not rfl)<|ws (pF rfl rfl)<|wN ?_;exact ⟨(!v291),(),h,sP⟩
      ·rintro v279 _ h;refine xD h rfl (fun _ h=>?_) (fun _ h=>?_)
       ·refine wQ<|wR<|wa ?_;refine wN<|wX ?_;cases h;exact xT
       ·refine wK<|wQ<|wQ<|wR<|wa ?_;refine wN ?_;refine PWc.jnX (zH h) (fun (⟨v294,nl295,v296,nl297,v298⟩:List PT × Bool × (List (DT × EV)) × Bool × (List (DT × EV))) (_:Unit)=>⟨140,[(8,.ref 68 0),(9,.ref 69 0)],[(68,.cells 57 [.d (.sl (List.map PT.e v294)),.mp 21361,.mp 21362]),(69,.cells 57 [.d (.sl (List.map PT.e v217)),.mp 21381,.mp 21382]),(21361,.mapH nl297 [.u16,.u64] true (zN DT.k EV.e v298)),(21362,.mapH nl295 [.u16,.u64] true (zN DT.k EV.e v296)),(21381,.mapH nl220 [.u16,.u64] true (zN DT.k EV.e v221)),(21382,.mapH nl218 [.u16,.u64] true (zN DT.k EV.e v219))]⟩) (fun h=>?_) ?_
        ·refine wB<|wM (fun (⟨i339,v340,nl341,v342,nl343,v344⟩:Int × List PT × Bool × (List (DT × EV)) × Bool × (List (DT × EV))) (_:Unit)=>⟨140,[(5,.d (.sl (List.map EV.e v14))),(8,.ref 68 0),(9,.ref 69 0),(11,.d (.v (.int .i64 i339)))],[(68,.cells 57 [.d (.sl (List.map PT.e v340)),.mp 21361,.mp 21362]),(69,.cells 57 [.d (.sl (List.map PT.e v217)),.mp 21381,.mp 21382]),(21361,.mapH nl343 [.u16,.u64] true (zN DT.k EV.e v344)),(21362,.mapH nl341 [.u16,.u64] true (zN DT.k EV.e v342)),(21381,.mapH nl220 [.u16,.u64] true (zN DT.k EV.e v221)),(21382,.mapH nl218 [.u16,.u64] true (zN DT.k EV.e v219))]⟩) () h (sP) ?_;rintro N ⟨i339,v340,nl341,v342,nl343,v344⟩ _ h;refine wQ<|wQ<|wR<|wm ?_;refine wm ?_;refine ws (lM (enc:=EV.e) (L:=v14) underlying22 rfl)<|ws (LR.lss rfl rfl)<|wN ?_;refine xD h rfl (fun _ h=>?_) (fun _ h=>?_)
         ·refine wK<|wQ<|wB<|wQ ?_;refine wJ (zH h) (fun (⟨v346,v347,nl348,v349,nl350,v351⟩:Bool × List PT × Bool × (List (DT × EV)) × Bool × (List (DT × EV))) (_:Unit)=>⟨140,[(5,.d (.sl (List.map EV.e v14))),(8,.ref 68 0),(9,.ref 69 0),(11,.d (.v (.int .i64 i339))),(131,.d (.v (.bool v346)))],[(68,.cells 57 [.d (.sl (List.map PT.e v347)),.mp 21361,.mp 21362]),(69,.cells 57 [.d (.sl (List.map PT.e v217)),.mp 21381,.mp 21382]),(21361,.mapH nl350 [.u16,.u64] true (zN DT.k EV.e v351)),(21362,.mapH nl348 [.u16,.u64] true (zN DT.k EV.e v349)),(21381,.mapH nl220 [.u16,.u64] true (zN DT.k EV.e v221)),(21382,.mapH nl218 [.u16,.u64] true (zN DT.k EV.e v219))]⟩) (fun h=>?_) ?_
          ·refine wR<|wm ?_;refine wm ?_;obtain ⟨x352,hy353,h⟩:=zq h;refine ws (iX (enc:=EV.e) (L:=v14) (y:=x352) underlying22 sizeOf34 rfl rfl hy353 (fun _=>rfl))<|ws (lE (ys:=[_,_,_,_,_,_,_]) isAgg34 sizeOf34 rfl rfl rfl) ?_;obtain ⟨v354,hy355,h⟩:=zY h;refine xN (JU x352 v354 hy355) call17<|wm ?_;refine xG (d:=123) h rfl (fun _ h=>?_) (fun _ h=>?_)
           ·refine wt (mV rfl)<|wt (mV rfl)<|wt (mV rfl) ?_;obtain ⟨x357,hy358,h⟩:=zq h;refine wt (iX (enc:=EV.e) (L:=v14) (y:=x357) underlying22 sizeOf34 rfl rfl hy358 (fun _=>rfl))<|wt (lE (ys:=[_,_,_,_,_,_,_]) isAgg34 sizeOf34 rfl rfl rfl) ?_;obtain ⟨y359,hy360,h⟩:=zY h;refine wt (LR.callObj [(100,68),(101,21361),(102,21362)] [] [100,101,102] (yT x357 v340 nl343 v344 nl341 v342 y359 hy360) hK rfl call12 rfl (by first | rfl | (simp;done) | (simp [PV.nilD,PV.ren,rn] <;> omega)) (by repeat' first | constructor | (congr 1;first | (simp;done) | (simp;omega) | omega)) rfl rfl rfl rfl) ?_;refine wy (tl:=[(5,_),(8,_),(9,_),(11,_),(123,_),(124,_),(125,_),(126,_),(127,_),(128,_),(129,_)]) (to:=[(68,_),(69,_),(21361,_),(21362,_),(21381,_),(21382,_)]) ?_;refine wt (nQ rfl rfl)<|ws (pT rfl rfl)<|wN ?_;exact ⟨((!decide (y359.1 = 7)),y359.2.1,y359.2.2.2.2.1,y359.2.2.2.2.2,y359.2.2.1,y359.2.2.2.1),(),h,sP⟩
           ·refine wf<|wf<|wf<|wf<|wf<|wf<|wy (tl:=[(5,_),(8,_),(9,_),(11,_),(123,_),(124,_),(125,_),(126,_),(127,_),(128,_),(129,_)]) (to:=[(68,_),(69,_),(21361,_),(21362,_),(21381,_),(21382,_)]) ?_;refine wf<|ws (pF rfl rfl)<|wN ?_;exact ⟨(false,v340,nl341,v342,nl343,v344),(),h,sP⟩
          ·rintro ⟨v346,v347,nl348,v349,nl350,v351⟩ _ h;refine xD h rfl (fun _ h=>?_) (fun _ h=>?_)
           ·refine wQ<|wR<|wa ?_;refine wN<|wX ?_;cases h;exact xT
           ·refine wK<|wR<|wm ?_;refine ws (LR.addW rfl rfl)<|wa ?_;refine wN ?_;exact ⟨((IntKind.i64.wrap (i339 + 1)),v347,nl348,v349,nl350,v351),(),h,sP⟩
         ·refine wZ ?_;exact ⟨(v340,nl341,v342,nl343,v344),(),h,sP⟩
        ·rintro ⟨v294,nl295,v296,nl297,v298⟩ _ h;refine wQ ?_;refine wJ (zH h) (fun (v362:Bool) (_:Unit)=>⟨140,[(4,.d (.v (.bool v362)))],[]⟩) (fun h=>?_) ?_
         ·refine wR<|wm ?_;obtain ⟨y363,hy364,h⟩:=zY h;refine ws (LR.callObjS [(100,68),(101,21361),(102,21362),(10,133)] [] [100,101,102,10] [(10,.row 34 7 (List.map EV.e y363))] [(100,.cells 57 [.d (.sl (List.map PT.e v294)),.mp 101,.mp 102]),(101,.mapH nl297 [.u16,.u64] true (zN DT.k EV.e v298)),(102,.mapH nl295 [.u16,.u64] true (zN DT.k EV.e v296))] (zb v294 nl297 v298 nl295 v296 y363 hy364) hK rfl call16 rfl (by first | rfl | (simp;done) | (simp [PV.nilD,PV.ren,rn] <;> omega)) (by repeat' first | constructor | (congr 1;first | (simp;done) | (simp;omega) | omega)) (.cons rfl<|.nil) (.cons rfl<|.cons rfl<|.cons rfl<|.nil) (by repeat' first | constructor | (congr 1;first | (simp;done) | (simp;omega) | omega)) rfl rfl rfl rfl rfl rfl) ?_;refine wy (tl:=[(9,_),(133,_)]) (to:=[(69,_),(133,_),(21381,_),(21382,_)]) ?_;refine wm ?_;obtain ⟨y365,hy366,h⟩:=zY h;refine ws (LR.callObjS [(100,69),(101,21381),(102,21382),(10,135)] [] [100,101,102,10] [(10,.row 34 7 (List.map EV.e y365))] [(100,.cells 57 [.d (.sl (List.map PT.e v217)),.mp 101,.mp 102]),(101,.mapH nl220 [.u16,.u64] true (zN DT.k EV.e v221)),(102,.mapH nl218 [.u16,.u64] true (zN DT.k EV.e v219))] (zb v217 nl220 v221 nl218 v219 y365 hy366) hK rfl call16 rfl (by first | rfl | (simp;done) | (simp [PV.nilD,PV.ren,rn] <;> omega)) (by repeat' first | constructor | (congr 1;first | (simp;done) | (simp;omega) | omega)) (.cons rfl<|.nil) (.cons rfl<|.cons rfl<|.cons rfl<|.nil) (by repeat' first | constructor | (congr 1;first | (simp;done) | (simp;omega) | omega)) rfl rfl rfl rfl rfl rfl) ?_;obtain ⟨v367,hy368,h⟩:=zY h;refine PWl.frz [133] hK (.cons rfl<|.nil) rfl (by simp) ?_;refine PWl.frz [135] hK (.cons rfl<|.nil) rfl (by simp) ?_;refine xN (Vg y363 y365 v367 hy368) call15<|wm ?_;refine xG (d:=137) h rfl (fun _ h=>?_) (fun _ h=>?_)
          ·obtain ⟨v370,hy371,h⟩:=zY h;refine wt (cN (uz v370 hy371) rfl call6 rfl rfl rfl rfl)<|ws (pT rfl rfl)<|wa ?_;refine wN ?_;exact ⟨v370,(),h,sP⟩
          ·refine wf<|ws (pF rfl rfl)<|wa ?_;refine wN ?_;exact ⟨false,(),h,sP⟩
         ·rintro v362 _ h;refine wX ?_;cases h;exact xT
end Go.Proofs

namespace Go.Ep
open Go

theorem Xh {n:Int} (h:-9223372036854775808 <= n) (h':n <= 9223372036854775807):IntKind.i64.wrap n = n:=by simp [IntKind.wrap,IntKind.bits,IntKind.signed];omega
theorem wU64 {n:Int} (h:0 <= n) (h':n <= 18446744073709551615):IntKind.u64.wrap n = n:=by simp [IntKind.wrap,IntKind.bits,IntKind.signed];omega
theorem wU16 {n:Int} (h:0 <= n) (h':n <= 65535):IntKind.u16.wrap n = n:=by simp [IntKind.wrap,IntKind.bits,IntKind.signed];omega
theorem zh {i:Nat} (h:i < 9223372036854775807):IntKind.i64.wrap ((i:Int) + 1) = ((i + 1:Nat):Int):=by rw [Xh (by omega) (by omega)];rfl
namespace M
variable {α β σ ρ τ ε:Type}
theorem yV (p:Prop) [Decidable p] (x y:M α):cond (decide p) x y = if p then x else y:=by by_cases h:p <;> simp [h]
theorem uX {body:σ -> M (Step σ ρ)} (l:List ε) (mk:Nat -> τ -> σ) (f:τ -> ε -> τ) (g:τ -> M ρ)
  (I:Nat -> τ -> Prop) (h1:∀ (i:Nat) (x:ε) (t:τ),l[i]? = some x -> i < l.length -> I i t -> body (mk i t) = pure (.next (mk (i + 1) (f t x))) /\ I (i + 1) (f t x))
  (h2:∀ t,I l.length t -> body (mk l.length t) = (g t).bind fun r=>pure (.done r)) (t0:τ) (h0:I 0 t0):loop body (mk 0 t0) = g (l.foldl f t0):=by
 have key:∀ k i t,i + k = l.length -> I i t -> loop body (mk i t) = g ((l.drop i).foldl f t):=by
  intro k
  induction k with
  | zero=>
   intro i t hi hI;have:i = l.length:=by omega
   subst this;rw [JB,h2 t hI,List.drop_length]
   rfl
  | succ k ih=>
   intro i t hi hI;have hlt:i < l.length:=by omega
   obtain ⟨h3,h4⟩:=h1 i l[i] t (List.getElem?_eq_getElem hlt) hlt hI;rw [yE h3,ih (i + 1) _ (by omega) h4,List.drop_eq_getElem_cons hlt]
   rfl
 simpa using key l.length 0 t0 (by omega) h0
theorem yk {body:σ -> M (Step σ ρ)} (l:List ε) (mk:Nat -> σ) (p:Nat -> ε -> Bool) (r1 r2:ρ)
  (h1:∀ (i:Nat) (x:ε),l[i]? = some x -> i < l.length -> body (mk i) = if p i x then pure (.next (mk (i + 1))) else pure (.done r2))
  (h2:body (mk l.length) = pure (.done r1)):loop body (mk 0) = pure (if l.zipIdx.all (fun y=>p y.2 y.1) then r1 else r2):=by
 have key:∀ k i,i + k = l.length -> loop body (mk i) = pure (if ((l.drop i).zipIdx i).all (fun y=>p y.2 y.1) then r1 else r2):=by
  intro k
  induction k with
  | zero=>
   intro i hi;have:i = l.length:=by omega
   subst this;rw [zu h2,List.drop_length]
   rfl
  | succ k ih=>
   intro i hi;have hlt:i < l.length:=by omega
   have h3:=h1 i l[i] (List.getElem?_eq_getElem hlt) hlt;rw [List.drop_eq_getElem_cons hlt,List.zipIdx_cons,List.all_cons]
   by_cases hp:p i l[i] = true
   ·rw [if_pos hp] at h3;rw [yE h3,ih (i + 1) (by omega),hp,Bool.true_and]
   ·rw [if_neg hp] at h3;rw [zu h3];simp [hp]
 have:=key l.length 0 (by omega);rw [List.drop_zero] at this;exact this

def came {ε:Type} (m:List ε) (L:List Nat):List ε:=L.filterMap fun i=>m[i]?
theorem zna {m:List ε} {L:List Nat} {i:Nat} {y:ε} (h:m[i]? = some y):came m (L ++ [i]) = came m L ++ [y]:=by simp [came,h]
theorem qM {n:Nat} {L:List Nat} (hn:L.Nodup) (hb:∀ i ∈ L,i < n) (ha:∀ i,i < n -> i ∈ L):L.Perm (List.range n):=by
 refine (List.perm_ext_iff_of_nodup hn List.nodup_range).2 fun i=>?_
 rw [List.mem_range];exact ⟨hb i,ha i⟩
theorem zoa {m:List ε} {L:List Nat} (hn:L.Nodup) (hb:∀ i ∈ L,i < m.length) (ha:∀ i,i < m.length -> i ∈ L):(came m L).Perm m:=by
 have h1:=(qM hn hb ha).filterMap fun i=>m[i]?
 have h2:(List.range m.length).filterMap (fun i=>m[i]?) = m:=by
  apply List.ext_getElem?;intro i;clear h1 hn hb ha;have:(List.range m.length).filterMap (fun i=>m[i]?) = m:=by
   induction m with
   | nil=>rfl
   | cons x r ih=>
    rw [List.length_cons,List.range_succ_eq_map,List.filterMap_cons];simp only [List.getElem?_cons_zero,List.filterMap_map]
    congr 1
  rw [this]
 rw [h2] at h1;exact h1
theorem zpa {n:Nat} {L:List Nat} (hn:L.Nodup) (hb:∀ i ∈ L,i < n):L.length <= n:=by
 have:=List.Nodup.length_le_of_subset hn (l₂:=List.range n) (fun i hi=>List.mem_range.2 (hb i hi));simpa using this

theorem full {n:Nat} {L:List Nat} (hn:L.Nodup) (hb:∀ i ∈ L,i < n) (hl:n <= L.length):∀ i,i < n -> i ∈ L:=by
 intro i hi;refine Classical.byContradiction fun hni=>?_
 have:=zpa (n:=n) (L:=i :: L) (List.nodup_cons.2 ⟨hni,hn⟩) (fun j hj=>by
  rcases List.mem_cons.1 hj with rfl | hj
  ·exact hi
  ·exact hb j hj)
 simp at this;omega
theorem loopM {body:σ -> M (Step σ ρ)} (m:List ε) (mk:List Nat -> τ -> σ) (f:τ -> ε -> M τ) (g:τ -> M ρ) (I:List ε -> τ -> Prop) (Q:ρ -> Prop)
  (hb:∀ L t,(∀ i ∈ L,i < m.length) -> body (mk L t) = yY (∀ i ∈ L,i < m.length) ((nxt m.length L).bind fun o=>match o with
   | none=>(g t).bind fun r=>pure (.done r)
   | some i=>(idx m (Int.ofNat i)).bind fun y=>(f t y).bind fun t'=>pure (.next (mk (L ++ [i]) t'))))
  (hs:∀ l t y,I l t -> l.length < m.length -> y ∈ m -> ∃ t',f t y = pure t' /\ I (l ++ [y]) t') (he:∀ l t,l.Perm m -> I l t -> (g t).wp Q) (t0:τ) (h0:I [] t0):(loop body (mk [] t0)).wp Q:=by
 have key:∀ k L t,L.length + k = m.length -> L.Nodup -> (∀ i ∈ L,i < m.length) -> I (came m L) t -> UA body Q (mk L t):=by
  intro k
  induction k with
  | zero=>
   intro L t hk hn hlt hI;refine YP ?_;rw [hb L t hlt];have hall:∀ i,i < m.length -> i ∈ L:=fun i hi=>full hn hlt (by omega) i hi
   refine ⟨hlt,⟨⟨none,hall⟩,fun o ho=>?_⟩⟩
   cases o with
   | none=>
    have:=he _ t (zoa hn hlt hall) hI;exact this
   | some i=>exact absurd (hall i ho.1) ho.2
  | succ k ih=>
   intro L t hk hn hlt hI;refine YP ?_;rw [hb L t hlt];have hex:∃ i,i < m.length /\ i ∉ L:=by
    refine Classical.byContradiction fun hno=>?_
    have hall:∀ i,i < m.length -> i ∈ L:=fun i hi=>Classical.byContradiction fun h=>hno ⟨i,hi,h⟩
    have:=(qM hn hlt hall).length_eq;simp at this;omega
   obtain ⟨i0,hi0⟩:=hex;refine ⟨hlt,⟨⟨some i0,hi0⟩,fun o ho=>?_⟩⟩
   cases o with
   | none=>exact absurd (ho i0 hi0.1) hi0.2
   | some i=>
    have hi:=List.getElem?_eq_getElem ho.1;obtain ⟨t',h1,h2⟩:=hs (came m L) t m[i] hI (by have:=List.length_filterMap_le (fun i=>m[i]?) L;unfold came;omega) (List.getElem_mem ho.1);show ((idx m (Int.ofNat i)).bind _).wp _;rw [show (Int.ofNat i) = (i:Int) from rfl,zF hi,zA,h1,zA];refine ih (L ++ [i]) t' (by simp;omega) ?_ ?_ (by rw [zna hi];exact h2)
    ·rw [List.nodup_append];refine ⟨hn,by simp,fun a ha b hb'=>?_⟩;rw [List.mem_singleton.1 hb'];intro e;exact ho.2 (e ▸ ha)
    ·intro j hj;rcases List.mem_append.1 hj with hj | hj
     ·exact hlt j hj
     ·rw [List.mem_singleton.1 hj];exact ho.1
 exact key m.length [] t0 (by simp) List.nodup_nil (by simp) h0

end M

namespace AL
variable {κ ν:Type} [DecidableEq κ]
theorem get_set (m:List (κ × ν)) (k q:κ) (v:ν):get (set m k v) q = if k = q then some v else get m q:=by
 induction m with
 | nil=>simp [set,get]
 | cons x r ih=>
  obtain ⟨a,u⟩:=x
  by_cases h:a = k
  ·subst h;simp only [set,if_true,get];split <;> rfl
  ·simp only [set,h,if_false,get,ih]
   by_cases h2:a = q
   ·subst h2;simp [Ne.symm h]
   ·simp [h2]
theorem getZ_set (m:List (κ × ν)) (k q:κ) (v z:ν):getZ (set m k v) q z = if k = q then v else getZ m q z:=by
 unfold getZ;rw [get_set];split <;> rfl
theorem keys_set (m:List (κ × ν)) (k:κ) (v:ν):(set m k v).map (·.1) = if k ∈ m.map (·.1) then m.map (·.1) else m.map (·.1) ++ [k]:=by
 induction m with
 | nil=>simp [set]
 | cons x r ih=>
  obtain ⟨a,u⟩:=x
  by_cases h:a = k
  ·subst h;simp [set]
  ·simp only [set,h,if_false,List.map_cons,ih,List.mem_cons,Ne.symm h,false_or]
   split <;> simp
theorem nodup_set {m:List (κ × ν)} (h:(m.map (·.1)).Nodup) (k:κ) (v:ν):((set m k v).map (·.1)).Nodup:=by
 rw [keys_set]
 split
 ·exact h
 ·rename_i hk
  rw [List.nodup_append];refine ⟨h,by simp,fun a ha b hb=>?_⟩;rw [List.mem_singleton.1 hb];intro e;exact hk (e ▸ ha)
theorem get_mem {m:List (κ × ν)} {k:κ} {v:ν} (h:get m k = some v):(k,v) ∈ m:=by
 induction m with
 | nil=>simp [get] at h
 | cons x r ih=>
  obtain ⟨a,u⟩:=x
  by_cases e:a = k
  ·subst e;simp [get] at h;subst h;simp
  ·simp only [get,e,if_false] at h;exact List.mem_cons_of_mem _ (ih h)
theorem mem_get {m:List (κ × ν)} (hn:(m.map (·.1)).Nodup) {k:κ} {v:ν} (h:(k,v) ∈ m):get m k = some v:=by
 induction m with
 | nil=>simp at h
 | cons x r ih=>
  obtain ⟨a,u⟩:=x;simp only [List.map_cons,List.nodup_cons] at hn;rcases List.mem_cons.1 h with e | h
  ·cases e;simp [get]
  ·have:a ≠ k:=fun e=>hn.1 (e ▸ List.mem_map.2 ⟨(k,v),h,rfl⟩)
   simp only [get,this,if_false];exact ih hn.2 h
theorem len_set (m:List (κ × ν)) (k:κ) (v:ν):(set m k v).length <= m.length + 1:=by
 induction m with
 | nil=>simp [set]
 | cons x r ih=>
  obtain ⟨a,u⟩:=x;unfold set
  split
  ·simp
  ·simpa using ih
end AL
end Go.Ep

namespace Go.Ep
open Go

structure RB where
 ctx:List PT
 l:List EV
 deriving DecidableEq
def vV (l1:List EV) (i80:Int):List DT × Int -> M (M.Step (List DT × Int) (List DT)):=fun ⟨out107,k108⟩=>
 M.bind (M.idx l1 i80) fun x109=>
 cond ((decide (k108 < (x109.kills.length:Int))))
  (M.bind (M.idx l1 i80) fun x112=>
  M.bind (M.idx x112.kills k108) fun x114=>
  M.bind (M.det (uR out107 x114)) fun v116=>
  M.pure (.next ((v116,(IntKind.i64.wrap (k108 + 1))))))
  (M.pure (.done out107))

def uY (l1:List EV):List DT × Int -> M (M.Step (List DT × Int) (List DT)):=fun ⟨out79,i80⟩=>
 cond ((decide (i80 < (l1.length:Int))))
  (M.bind (M.bind (M.idx l1 i80) fun x83=>
  M.bind (M.det (uR out79 x83.dot)) fun v85=>
  M.loop (vV l1 i80) (v85,0)) (fun out82=>
  M.pure (.next ((out82,(IntKind.i64.wrap (i80 + 1)))))))
  (M.pure (.done out79))

def Yo (l1:List EV):M (List DT):=
 M.bind (M.loop (uY l1) (([]:List DT),0)) (fun out2=>
 M.pure out2)

def uF (b1:RB) (e2:EV):Int × List EV -> M (M.Step (Int × List EV) (List EV)):=fun ⟨i40,l41⟩=>
 cond ((decide (i40 < (b1.l.length:Int))))
  (M.bind (M.bind (M.bind (M.idx b1.l i40) fun x45=>
  cond (!decide (x45.kind = 1))
   (M.pure true)
   (M.bind (M.idx b1.l i40) fun x48=>
   M.bind (M.det (wI e2.kills x48.dot)) fun v50=>
   M.pure (!v50))) (fun v44=>
  cond v44
   (M.bind (M.idx b1.l i40) fun x53=>
   M.yY ((l41.length + List.length ([x53])) * 80 <= 140737488355328) <|
   M.pure (l41 ++ [x53]))
   (M.pure l41))) (fun l43=>
  M.pure (.next (((IntKind.i64.wrap (i40 + 1)),l43)))))
  (M.pure (.done l41))

def XO (b1:RB) (e2:EV):M (RB × Int):=
 M.bind (M.det (Zf e2)) fun v3=>
 cond (!v3)
  (M.pure (b1,1))
  (M.bind (M.det (xe b1.ctx e2.dot)) fun v6=>
  cond v6
   (M.pure (b1,7))
   (M.bind (M.loop (uF b1 e2) (0,([]:List EV))) (fun l9=>
   M.bind (M.det (Yo ([e2]))) fun v56=>
   M.bind (M.det (jL v56)) fun v58=>
   M.bind (M.det (ZZ b1.ctx v58)) fun v60=>
   M.bind (M.det (WX l9 e2)) fun v62=>
   M.pure ((⟨v60,v62⟩:RB),0))))

def uZ (l1:List EV) (k2:Int):Int × List EV -> M (M.Step (Int × List EV) (List EV)):=fun ⟨i22,out23⟩=>
 cond ((decide (i22 < (l1.length:Int))))
  (M.bind (M.bind (M.idx l1 i22) fun x26=>
  cond (decide (x26.kind = k2))
   (M.bind (M.idx l1 i22) fun x29=>
   M.yY ((out23.length + List.length ([x29])) * 80 <= 140737488355328) <|
   M.pure (out23 ++ [x29]))
   (M.pure out23)) (fun out25=>
  M.pure (.next (((IntKind.i64.wrap (i22 + 1)),out25)))))
  (M.pure (.done out23))

def UT (l1:List EV) (k2:Int):M (List EV):=
 M.bind (M.loop (uZ l1 k2) (0,([]:List EV))) (fun out3=>
 M.pure out3)

def WD (b1:RB):M (List EV):=
 M.bind (M.det (UT b1.l 1)) fun v2=>
 M.pure v2

def wq (l1:List EV) (cid2:Int):Int × List EV -> M (M.Step (Int × List EV) (List EV)):=fun ⟨i30,some31⟩=>
 cond ((decide (i30 < (l1.length:Int))))
  (M.bind (M.bind (M.bind (M.idx l1 i30) fun x35=>
  cond (decide (x35.kind = 1))
   (M.bind (M.idx l1 i30) fun x38=>
   M.pure (decide (x38.cid = cid2)))
   (M.pure false)) (fun v34=>
  cond v34
   (M.bind (M.idx l1 i30) fun x41=>
   M.yY ((some31.length + List.length ([x41])) * 80 <= 140737488355328) <|
   M.pure (some31 ++ [x41]))
   (M.pure some31))) (fun some33=>
  M.pure (.next (((IntKind.i64.wrap (i30 + 1)),some33)))))
  (M.pure (.done some31))

def XP (l1:List EV) (cid2:Int):M (List DT):=
 M.bind (M.loop (wq l1 cid2) (0,([]:List EV))) (fun some3=>
 M.bind (M.det (Yo some3)) fun v44=>
 M.pure v44)

def ua (l1:List EV) (cid2:Int) (f3:Int):Int × List EV -> M (M.Step (Int × List EV) (List EV)):=fun ⟨i37,some38⟩=>
 cond ((decide (i37 < (l1.length:Int))))
  (M.bind (M.bind (M.bind (M.idx l1 i37) fun x42=>
  cond (decide (x42.kind = 1))
   (M.bind (M.idx l1 i37) fun x45=>
   cond (decide (x45.cid = cid2))
    (M.bind (M.idx l1 i37) fun x48=>
    M.pure (decide (x48.field = f3)))
    (M.pure false))
   (M.pure false)) (fun v41=>
  cond v41
   (M.bind (M.idx l1 i37) fun x51=>
   M.yY ((some38.length + List.length ([x51])) * 80 <= 140737488355328) <|
   M.pure (some38 ++ [x51]))
   (M.pure some38))) (fun some40=>
  M.pure (.next (((IntKind.i64.wrap (i37 + 1)),some40)))))
  (M.pure (.done some38))

def UU (l1:List EV) (cid2:Int) (f3:Int):M (List DT):=
 M.bind (M.loop (ua l1 cid2 f3) (0,([]:List EV))) (fun some4=>
 M.bind (M.det (Yo some4)) fun v54=>
 M.pure v54)

def qO (b1:RB) (e2:EV):M (EV × Int):=
 M.bind (M.det (Zf (⟨e2.dot,e2.kind,e2.cid,e2.field,e2.text,([]:List DT)⟩:EV))) fun v3=>
 cond (!v3)
  (M.pure (((⟨(⟨0,0⟩:DT),0,0,0,(⟨#[]⟩:ByteArray),([]:List DT)⟩:EV),1)))
  (M.bind (M.det (xe b1.ctx e2.dot)) fun v6=>
  cond v6
   (M.pure (((⟨(⟨0,0⟩:DT),0,0,0,(⟨#[]⟩:ByteArray),([]:List DT)⟩:EV),7)))
   (M.bind (M.det (WD b1)) fun v9=>
   M.bind (M.det (XP v9 e2.cid)) fun v11=>
   M.bind (cond (decide (e2.kind = 1))
    (M.bind (M.det (WD b1)) fun v15=>
    M.bind (M.det (UU v15 e2.cid e2.field)) fun v17=>
    M.pure v17)
    (M.pure v11)) (fun e13=>
   cond ((decide (256 < (e13.length:Int))))
    (M.pure (((⟨(⟨0,0⟩:DT),0,0,0,(⟨#[]⟩:ByteArray),([]:List DT)⟩:EV),3)))
    (M.pure ((⟨e2.dot,e2.kind,e2.cid,e2.field,e2.text,e13⟩:EV),0)))))

def Wo (e1:EV) (c2:List PT):M EV:=
 M.bind (M.det (xe c2 e1.dot)) fun v3=>
 M.bind (cond v3
  (M.pure ([]:List DT))
  (M.pure e1.kills)) (fun e5=>
 M.pure (⟨e1.dot,e1.kind,e1.cid,e1.field,e1.text,e5⟩:EV))

def xz (b1:RB) (c2:List PT):Int × List EV -> M (M.Step (Int × List EV) (List EV)):=fun ⟨i38,l39⟩=>
 cond ((decide (i38 < (b1.l.length:Int))))
  (M.bind (M.bind (M.bind (M.idx b1.l i38) fun x43=>
  cond (decide (x43.kind = 1))
   (M.pure true)
   (M.bind (M.idx b1.l i38) fun x46=>
   M.bind (M.det (xe c2 x46.dot)) fun v48=>
   M.pure (!v48))) (fun v42=>
  cond v42
   (M.bind (M.idx b1.l i38) fun x51=>
   M.bind (M.det (Wo x51 c2)) fun v53=>
   M.yY ((l39.length + List.length ([v53])) * 80 <= 140737488355328) <|
   M.pure (l39 ++ [v53]))
   (M.pure l39))) (fun l41=>
  M.pure (.next (((IntKind.i64.wrap (i38 + 1)),l41)))))
  (M.pure (.done l39))

def jY (b1:RB) (c2:List PT):M (RB × Int):=
 M.bind (M.loop (xz b1 c2) (0,([]:List EV))) (fun l3=>
 M.pure (((⟨b1.ctx,l3⟩:RB),(IntKind.i64.wrap ((b1.l.length:Int) - (l3.length:Int))))))

end Go.Ep

namespace Go.Ep.M.V
open Go

def zr (d:DT):Bool:=decide (1 <= d.dev) && (decide (1 <= d.n) && decide (d.n <= 281474976710655))
theorem yl {d:DT}:zr d = true ↔ 1 <= d.dev /\ 1 <= d.n /\ d.n <= 281474976710655:=by simp [zr]
theorem YH (d:DT):yp d = pure (zr d):=by
 unfold yp;rw [zX,zX,zA];refine congrArg pure ?_;rw [Bool.eq_iff_iff,yl];simp only [Bool.and_eq_true,decide_eq_true_eq];omega
theorem vW (d:DT):vf d = pure (zr d):=by
 unfold vf;rw [zX,zX,zA];refine congrArg pure ?_;rw [Bool.eq_iff_iff,yl];simp only [Bool.and_eq_true,decide_eq_true_eq];omega
theorem JV (a b:List DT) (h:a.length <= 1000000000000):Xw a b = pure (decide (a = b)):=by
 unfold Xw
 by_cases hl:(a.length:Int) = b.length
 ·simp only [hl,decide_true,Bool.not_true,cond_false];have:=yk (body:=uT a b) a (fun i=>(i:Int)) (fun i x=>decide (b[i]? = some x)) (.brk ()) (.ret false) (fun i x hx hi=>by
   have hb:i < b.length:=by omega
   unfold uT;rw [zF hx,zF (List.getElem?_eq_getElem hb),zh (by omega)];simp only [zA,List.getElem?_eq_getElem hb,Option.some.injEq];have:decide ((i:Int) < (a.length:Int)) = true:=by simpa using hi
   rw [this,cond_true]
   by_cases he:b[i] = x
   ·subst he;simp
   ·rw [if_neg (by simpa using he)];have:(decide (x.dev = b[i].dev) && decide (x.n = b[i].n)) = false:=by
     rw [Bool.eq_false_iff];intro hc;simp at hc;apply he
     cases x;cases hh:b[i];simp_all
    rw [this];rfl) (by
   unfold uT;simp)
  rw [show (0:Int) = ((0:Nat):Int) from rfl,this]
  by_cases he:a = b
  ·subst he;rw [if_pos]
   ·simp [zA,YB]
   ·rw [List.all_eq_true];intro ⟨x,i⟩ hx;rw [List.mk_mem_zipIdx_iff_getElem?] at hx;simpa using hx
  ·rw [if_neg]
   ·simp [he,zA,JA]
   ·intro hall;rw [List.all_eq_true] at hall;apply he;apply List.ext_getElem (by omega);intro i h1 h2;have:=hall (a[i],i) (by rw [List.mk_mem_zipIdx_iff_getElem?];exact List.getElem?_eq_getElem h1);simp [h2] at this;exact this.symm
 ·have hne:a ≠ b:=fun e=>hl (by rw [e])
  simp [hl,hne]

def ofV : List DT -> Int -> Int
 | [],_=>0
 | d :: r,dev=>if d.dev = dev /\ zr d = true then max d.n (ofV r dev) else ofV r dev
theorem zqa (v:List DT) (dev:Int):0 <= ofV v dev /\ ofV v dev <= 281474976710655:=by
 induction v with
 | nil=>simp [ofV]
 | cons d r ih=>
  simp only [ofV]
  split
  ·rename_i h;have:=yl.1 h.2;omega
  ·exact ih
theorem ofV_pos {v:List DT} {dev:Int}:0 < ofV v dev ↔ ∃ d ∈ v,d.dev = dev /\ zr d = true:=by
 induction v with
 | nil=>simp [ofV]
 | cons d r ih=>
  simp only [ofV,List.mem_cons,exists_eq_or_imp]
  split
  ·rename_i h
   have:=yl.1 h.2
   constructor
   ·intro _;exact .inl h
   ·intro _;omega
  ·rename_i h
   rw [ih]
   constructor
   ·exact .inr
   ·rintro (hh | hh)
    ·exact absurd hh h
    ·exact hh
def VL : List Int -> Int -> List Int
 | [],k=>[k]
 | a :: r,k=>if k < a then k :: a :: r else if k = a then a :: r else a :: VL r k
theorem WE {l:List Int} {k q:Int}:q ∈ VL l k ↔ q = k \/ q ∈ l:=by
 induction l with
 | nil=>simp [VL]
 | cons a r ih=>
  unfold VL
  split
  ·simp
  ·split
   ·rename_i h;subst h;simp
   ·simp only [List.mem_cons,ih];constructor
    ·rintro (h | h | h) <;> simp [h]
    ·rintro (h | h | h) <;> simp [h]
theorem vX {l:List Int} (h:l.Pairwise (· < ·)) (k:Int):(VL l k).Pairwise (· < ·):=by
 induction l with
 | nil=>simp [VL]
 | cons a r ih=>
  obtain ⟨h1,h2⟩:=List.pairwise_cons.1 h;unfold VL
  split
  ·rename_i hk
   refine List.pairwise_cons.2 ⟨fun x hx=>?_,h⟩;rcases List.mem_cons.1 hx with rfl | hx
   ·exact hk
   ·have:=h1 x hx;omega
  ·split
   ·exact h
   ·refine List.pairwise_cons.2 ⟨fun x hx=>?_,ih h2⟩;rcases WE.1 hx with rfl | hx
    ·omega
    ·exact h1 x hx
theorem Yp (l : List Int) (k : Int) : (VL l k).length <= l.length + 1 := by
  induction l with
  | nil => simp [VL]
  | cons a r ih => unfold VL; split <;> try split
                   all_goals simp_all
def ub (l:List Int) (d:DT):List Int:=if zr d then VL l d.dev else l
def devsL (v:List DT):List Int:=v.foldl ub []
theorem Yq (v:List DT):∀ l:List Int,l.Pairwise (· < ·) -> (v.foldl ub l).Pairwise (· < ·) /\ (∀ k,k ∈ v.foldl ub l ↔ k ∈ l \/ ∃ d ∈ v,d.dev = k /\ zr d = true) /\ (v.foldl ub l).length <= l.length + v.length:=by
 induction v with
 | nil=>intro l h;simp [h]
 | cons d r ih=>
  intro l h;simp only [List.foldl_cons];unfold ub
  split
  ·rename_i hg
   obtain ⟨h1,h2,h3⟩:=ih _ (vX h d.dev);refine ⟨h1,fun k=>?_,?_⟩
   ·have:=h2 k;unfold ub at this;rw [this,WE]
    constructor
    ·rintro ((rfl | h) | ⟨e,he,h⟩)
     ·exact .inr ⟨d,by simp,rfl,hg⟩
     ·exact .inl h
     ·exact .inr ⟨e,by simp [he],h⟩
    ·rintro (h | ⟨e,he,h⟩)
     ·exact .inl (.inr h)
     ·rcases List.mem_cons.1 he with rfl | he
      ·exact .inl (.inl h.1.symm)
      ·exact .inr ⟨e,he,h⟩
   ·have:=Yp l d.dev;simp only [List.length_cons];unfold ub at h3;omega
  ·rename_i hg
   obtain ⟨h1,h2,h3⟩:=ih _ h;refine ⟨h1,fun k=>?_,?_⟩
   ·have:=h2 k;unfold ub at this;rw [this]
    constructor
    ·rintro (h | ⟨e,he,h⟩)
     ·exact .inl h
     ·exact .inr ⟨e,by simp [he],h⟩
    ·rintro (h | ⟨e,he,h⟩)
     ·exact .inl h
     ·rcases List.mem_cons.1 he with rfl | he
      ·exact absurd h.2 hg
      ·exact .inr ⟨e,he,h⟩
   ·simp only [List.length_cons];unfold ub at h3;omega
theorem wv {v:List DT} {k:Int}:k ∈ devsL v ↔ 0 < ofV v k:=by rw [ofV_pos];simpa [devsL] using (Yq v [] List.Pairwise.nil).2.1 k
def ww (m:List (Int × Int)) (d:DT):List (Int × Int):=if zr d then AL.set m d.dev (max (AL.getZ m d.dev 0) d.n) else m
def uh (v:List DT):List (Int × Int):=v.foldl ww []
theorem UV (v:List DT):∀ m:List (Int × Int),(m.map (·.1)).Nodup -> ((v.foldl ww m).map (·.1)).Nodup /\ ((∀ k,0 <= AL.getZ m k 0) -> ∀ k,AL.getZ (v.foldl ww m) k 0 = max (AL.getZ m k 0) (ofV v k)) /\ (v.foldl ww m).length <= m.length + v.length /\ (∀ k,k ∈ (v.foldl ww m).map (·.1) -> k ∈ m.map (·.1) \/ 0 < ofV v k):=by
 induction v with
 | nil=>
  intro m h;refine ⟨h,fun h0 k=>?_,by simp,fun k hk=>.inl hk⟩;have:=h0 k;simp only [List.foldl_nil,ofV];omega
 | cons d r ih=>
  intro m h;simp only [List.foldl_cons]
  by_cases hg:zr d = true
  ·have hd:=yl.1 hg;have e:ww m d = AL.set m d.dev (max (AL.getZ m d.dev 0) d.n):=by simp [ww,hg]
   rw [e];obtain ⟨h1,h2,h3,h4⟩:=ih _ (AL.nodup_set h d.dev (max (AL.getZ m d.dev 0) d.n));refine ⟨h1,fun h0 k=>?_,?_,fun k hk=>?_⟩
   ·rw [h2 (fun q=>by rw [AL.getZ_set];have:=h0 q;have:=h0 d.dev;split <;> omega),AL.getZ_set];simp only [ofV]
    by_cases hk:d.dev = k
    ·subst hk;simp only [if_true,hg,and_self];omega
    ·simp [hk]
   ·have:=AL.len_set m d.dev (max (AL.getZ m d.dev 0) d.n);simp only [List.length_cons];omega
   ·simp only [ofV];rcases h4 k hk with h5 | h5
    ·rw [AL.keys_set] at h5
     split at h5
     ·exact .inl h5
     ·rcases List.mem_append.1 h5 with h5 | h5
      ·exact .inl h5
      ·right
       rw [List.mem_singleton.1 h5,if_pos ⟨rfl,hg⟩];omega
    ·right;split <;> omega
  ·have e:ww m d = m:=by simp [ww,hg]
   rw [e];obtain ⟨h1,h2,h3,h4⟩:=ih m h;have e2:∀ k,ofV (d :: r) k = ofV r k:=fun k=>by simp only [ofV];rw [if_neg (fun hh=>hg hh.2)]
   exact ⟨h1,fun h0 k=>by rw [h2 h0,e2],by simp only [List.length_cons];omega,fun k hk=>by rw [e2];exact h4 k hk⟩
theorem Zj (v:List DT):((uh v).map (·.1)).Nodup:=(UV v [] (by simp)).1
theorem Yr (v:List DT) (k:Int):AL.getZ (uh v) k 0 = ofV v k:=by
 have:=(UV v [] (by simp)).2.1 (fun _=>Int.le_refl _) k;have h2:=zqa v k;rw [uh,this];show max 0 (ofV v k) = _;omega
theorem UW {v:List DT} {k n:Int} (h:(k,n) ∈ uh v):n = ofV v k /\ 0 < n:=by
 have h1:=AL.mem_get (Zj v) h;have h2:AL.getZ (uh v) k 0 = n:=by simp [AL.getZ,h1]
 rw [Yr] at h2;have h3:=(UV v [] (by simp)).2.2.2 k (List.mem_map.2 ⟨_,h,rfl⟩);simp at h3;omega
def UX (a b:DT):Int:=if a = b then 0 else if zJ a b then -1 else 1
theorem vH (a b:DT):um a b = pure (UX a b):=by
 unfold um UX;have h1:(decide (a.dev = b.dev) && decide (a.n = b.n)) = decide (a = b):=by
  rw [Bool.eq_iff_iff];cases a;cases b;simp
 have h2:(cond (decide (a.dev < b.dev)) (pure true) (cond (decide (a.dev = b.dev)) (pure (decide (a.n < b.n))) (pure false)):M Bool) = pure (zJ a b):=by
  rw [zX,jK];rfl
 rw [h1,h2,yV,zA]
 split
 ·rfl
 ·cases zJ a b <;> rfl
theorem Zk {a b:DT}:UX a b < 0 ↔ zJ a b = true:=by
 unfold UX
 split
 ·rename_i h;subst h;simp [zJ]
 ·split <;> simp_all
theorem cmpD_pos {a b:DT}:0 < UX a b ↔ zJ b a = true:=by
 unfold UX
 by_cases h:a = b
 ·subst h;simp [zJ]
 ·rw [if_neg h]
  cases a;cases b
  simp only [DT.mk.injEq] at h;simp only [zJ,Bool.or_eq_true,Bool.and_eq_true,decide_eq_true_eq]
  split <;> omega
theorem XQ (l:List DT) (d:DT) (h:l.length <= 1000000000000):uR l d = pure ((l.filter fun x=>zJ x d) ++ [d] ++ (l.filter fun x=>zJ d x)):=by
 unfold uR;have c0:∀ o:List DT,o.length <= 1000000000000 -> True:=fun _ _=>trivial
 have h1:=uX (body:=ZX l d) l (fun i (o:List DT)=>((i:Int),o)) (fun o x=>if zJ x d then o ++ [x] else o) (fun o=>pure o) (fun i o=>o.length <= i) (fun i x o hx hi ho=>by
  have h1:decide ((i:Int) < (l.length:Int)) = true:=by simpa using hi
  unfold ZX;simp only [h1,cond_true,zF hx,zA,vH,zB,zh (show i < 9223372036854775807 by omega),yV,Zk]
  split
  ·rw [zE (by simp;omega)];exact ⟨rfl,by simp;omega⟩
  ·exact ⟨rfl,by omega⟩) (fun o _=>by unfold ZX;simp [zA]) [] (by simp)
 have h2:∀ o0:List DT,o0.length <= 1000000000001 -> loop (uB l d) (0,o0) = pure (l.foldl (fun o x=>if zJ d x then o ++ [x] else o) o0):=fun o0 ho0=>by
  have:=uX (body:=uB l d) l (fun i (o:List DT)=>((i:Int),o)) (fun o x=>if zJ d x then o ++ [x] else o) (fun o=>pure o) (fun i o=>o.length <= o0.length + i) (fun i x o hx hi ho=>by
   have h1:decide ((i:Int) < (l.length:Int)) = true:=by simpa using hi
   unfold uB;simp only [h1,cond_true,zF hx,zA,vH,zB,zh (show i < 9223372036854775807 by omega),yV,cmpD_pos]
   split
   ·rw [zE (by simp;omega)];exact ⟨rfl,by simp;omega⟩
   ·exact ⟨rfl,by omega⟩) (fun o _=>by unfold uB;simp [zA]) o0 (by simp)
  exact this
 have hf:∀ (p:DT -> Bool) (l o:List DT),l.foldl (fun o x=>if p x then o ++ [x] else o) o = o ++ l.filter p:=by
  intro p l
  induction l with
  | nil=>simp
  | cons x r ih=>
   intro o;rw [List.foldl_cons,ih,List.filter_cons]
   split <;> simp
 rw [show ((0:Int),([]:List DT)) = (((0:Nat):Int),[]) from rfl,h1,hf,zA,zE,h2,hf,zA]
 ·rfl
 ·have:=List.length_filter_le (fun x=>zJ x d) l;simp;omega
 ·have:=List.length_filter_le (fun x=>zJ x d) l;simp;omega
def Zr (l:List Int):List DT:=l.map fun k=>⟨k,1⟩
theorem qP {l:List Int} (h:l.Pairwise (· < ·)) (k:Int):((Zr l).filter fun x=>zJ x ⟨k,1⟩) ++ [⟨k,1⟩] ++ ((Zr l).filter fun x=>zJ ⟨k,1⟩ x) = Zr (VL l k):=by
 induction l with
 | nil=>rfl
 | cons a r ih=>
  obtain ⟨h1,h2⟩:=List.pairwise_cons.1 h;have i2:=ih h2;unfold VL
  by_cases c1:k < a
  ·rw [if_pos c1];have e1:(Zr (a :: r)).filter (fun x=>zJ x ⟨k,1⟩) = []:=by
    rw [List.filter_eq_nil_iff];intro x hx;simp only [Zr,List.map_cons,List.mem_cons,List.mem_map] at hx;rcases hx with rfl | ⟨b,hb,rfl⟩
    ·simp [zJ];omega
    ·have:=h1 b hb;simp [zJ];omega
   have e2:(Zr (a :: r)).filter (fun x=>zJ ⟨k,1⟩ x) = Zr (a :: r):=by
    rw [List.filter_eq_self];intro x hx;simp only [Zr,List.map_cons,List.mem_cons,List.mem_map] at hx;rcases hx with rfl | ⟨b,hb,rfl⟩
    ·simp [zJ];omega
    ·have:=h1 b hb;simp [zJ];omega
   rw [e1,e2];rfl
  ·rw [if_neg c1]
   by_cases c2:k = a
   ·subst c2;rw [if_pos rfl];have e1:(Zr (k :: r)).filter (fun x=>zJ x ⟨k,1⟩) = []:=by
     rw [List.filter_eq_nil_iff];intro x hx;simp only [Zr,List.map_cons,List.mem_cons,List.mem_map] at hx;rcases hx with rfl | ⟨b,hb,rfl⟩
     ·simp [zJ]
     ·have:=h1 b hb;simp [zJ];omega
    have e2:(Zr (k :: r)).filter (fun x=>zJ ⟨k,1⟩ x) = Zr r:=by
     show List.filter _ (⟨k,1⟩ :: Zr r) = _;rw [List.filter_cons,if_neg (by simp [zJ]),List.filter_eq_self];intro x hx;simp only [Zr,List.mem_map] at hx;obtain ⟨b,hb,rfl⟩:=hx;have:=h1 b hb;simp [zJ];omega
    rw [e1,e2];rfl
   ·rw [if_neg c2];show (List.filter _ (⟨a,1⟩ :: Zr r)) ++ _ ++ (List.filter _ (⟨a,1⟩ :: Zr r)) = ⟨a,1⟩ :: Zr (VL r k);rw [List.filter_cons,if_pos (by simp [zJ];omega),List.filter_cons,if_neg (by simp [zJ];omega),<- i2]
    rfl
end Go.Ep.M.V

namespace Go.Ep.M.R
open Go

def uf (x:RN):Bool:=decide (1 <= x.lo) && (decide (x.lo <= x.hi) && decide (x.hi <= 281474976710655))
theorem zc {x:RN}:uf x = true ↔ 1 <= x.lo /\ x.lo <= x.hi /\ x.hi <= 281474976710655:=by simp [uf]
def inR (n:Int) (x:RN):Bool:=uf x && (decide (x.lo <= n) && decide (n <= x.hi))
theorem wY {n:Int} {x:RN}:inR n x = true ↔ (1 <= x.lo /\ x.lo <= x.hi /\ x.hi <= 281474976710655) /\ x.lo <= n /\ n <= x.hi:=by simp [inR,uf]
def yU (l:List RN) (n:Int):Bool:=l.any (inR n)
theorem xE {l:List RN} {n:Int}:yU l n = true ↔ ∃ x ∈ l,uf x = true /\ x.lo <= n /\ n <= x.hi:=by
 unfold yU;rw [List.any_eq_true];simp [inR]
@[simp] theorem qQ (n:Int):yU [] n = false:=rfl
theorem ZA (x:RN) (l:List RN) (n:Int):yU (x :: l) n = (inR n x || yU l n):=rfl
theorem vi (a b:List RN) (n:Int):yU (a ++ b) n = (yU a n || yU b n):=by simp [yU]
theorem wx (x:RN) (n:Int):yU [x] n = inR n x:=by simp [yU]
theorem zra {a b:List RN} (h:a.Perm b) (n:Int):yU a n = yU b n:=by
 rw [Bool.eq_iff_iff,xE,xE];simp only [h.mem_iff]
theorem JW (l:List RN) (n:Int):yU (l.filter uf) n = yU l n:=by
 rw [Bool.eq_iff_iff,xE,xE];simp only [List.mem_filter];exact ⟨fun ⟨x,⟨h1,_⟩,h3⟩=>⟨x,h1,h3⟩,fun ⟨x,h1,h2,h3⟩=>⟨x,⟨h1,h2⟩,h2,h3⟩⟩
theorem QQ {l:List RN} {n:Int} (h:yU l n = true):1 <= n /\ n <= 281474976710655:=by
 obtain ⟨x,_,h2,h3,h4⟩:=xE.1 h;have:=zc.1 h2;omega

def Nf : List RN -> Prop
 | []=>True
 | x :: r=>uf x = true /\ (∀ y ∈ r,x.hi + 1 < y.lo) /\ Nf r
theorem Nf.may {l:List RN} (h:Nf l):∀ x ∈ l,uf x = true:=by
 induction l with
 | nil=>simp
 | cons y r ih=>
  intro x hx;rcases List.mem_cons.1 hx with rfl | hx
  ·exact h.1
  ·exact ih h.2.2 x hx
theorem ZB {l:List RN} {z:RN}:Nf (l ++ [z]) ↔ Nf l /\ uf z = true /\ ∀ p ∈ l,p.hi + 1 < z.lo:=by
 induction l with
 | nil=>simp [Nf]
 | cons x r ih=>
  simp only [List.cons_append,Nf,ih,List.mem_append,List.mem_cons,List.not_mem_nil,or_false]
  constructor
  ·rintro ⟨h1,h2,h3,h4,h5⟩;refine ⟨⟨h1,fun y hy=>h2 y (.inl hy),h3⟩,h4,fun p hp=>?_⟩;rcases hp with rfl | hp
   ·exact h2 z (.inr rfl)
   ·exact h5 p hp
  ·rintro ⟨⟨h1,h2,h3⟩,h4,h5⟩;refine ⟨h1,fun y hy=>?_,h3,h4,fun p hp=>h5 p (.inr hp)⟩;rcases hy with hy | rfl
   ·exact h2 y hy
   ·exact h5 x (.inl rfl)
theorem qR {x:RN} {r:List RN} (h:Nf (x :: r)) {n:Int} (hn:yU r n = true):x.hi + 1 < n:=by
 obtain ⟨y,h1,_,h3,_⟩:=xE.1 hn;have:=h.2.1 y h1;omega
theorem UY {x:RN} {r:List RN} (h:Nf (x :: r)):yU (x :: r) x.lo = true:=by
 rw [ZA];have:=zc.1 h.1;rw [Bool.or_eq_true];exact .inl (wY.2 ⟨this,by omega,by omega⟩)
theorem UZ {x:RN} {r:List RN} (h:Nf (x :: r)) {n:Int} (hn:yU (x :: r) n = true):x.lo <= n:=by
 rw [ZA,Bool.or_eq_true] at hn;rcases hn with hn | hn
 ·exact (wY.1 hn).2.1
 ·have:=qR h hn;have:=zc.1 h.1;omega
theorem JX {x:RN} {r:List RN} (h:Nf (x :: r)) {n:Int} (h1:x.lo <= n):yU (x :: r) n = true ↔ n <= x.hi \/ yU r n = true:=by
 rw [ZA,Bool.or_eq_true,wY];have:=zc.1 h.1
 constructor
 ·rintro (h2 | h2)
  ·exact .inl h2.2.2
  ·exact .inr h2
 ·rintro (h2 | h2)
  ·exact .inl ⟨this,h1,h2⟩
  ·exact .inr h2
theorem Vh : ∀ {a b:List RN},Nf a -> Nf b -> (∀ n,yU a n = yU b n) -> a = b
 | [],[],_,_,_=>rfl
 | [],y :: s,_,hb,h=>by have:=h y.lo;rw [UY hb] at this;simp at this
 | x :: r,[],ha,_,h=>by have:=h x.lo;rw [UY ha] at this;simp at this
 | x :: r,y :: s,ha,hb,h=>by
  have h1:x.lo = y.lo:=by
   have h2:=UZ hb (by rw [<- h];exact UY ha);have h3:=UZ ha (by rw [h];exact UY hb);omega
  have hx:=zc.1 ha.1;have hy:=zc.1 hb.1;have hle:∀ {x y:RN} {r s:List RN},Nf (x :: r) -> Nf (y :: s) -> (∀ n,yU (x :: r) n = yU (y :: s) n) -> x.lo = y.lo -> y.hi <= x.hi:=by
   intro x y r s ha hb h h1;have hx:=zc.1 ha.1;refine Classical.byContradiction fun hc=>?_
   have h2:yU (y :: s) (x.hi + 1) = true:=(JX hb (by omega)).2 (.inl (by omega));rw [<- h,JX ha (by omega)] at h2;rcases h2 with h2 | h2
   ·omega
   ·have:=qR ha h2;omega
  have h2:x.hi = y.hi:=by
   have:=hle ha hb h h1;have:=hle hb ha (fun n=>(h n).symm) h1.symm;omega
  have he:x = y:=by cases x;cases y;simp_all
  subst he;rw [Vh ha.2.2 hb.2.2 fun n=>?_];rw [Bool.eq_iff_iff];have h3:=h n
  constructor
  ·intro hn;have:=qR ha hn;have h4:yU (x :: r) n = true:=(JX ha (by omega)).2 (.inr hn);rw [h3,JX hb (by omega)] at h4;rcases h4 with h4 | h4
   ·omega
   ·exact h4
  ·intro hn;have:=qR hb hn;have h4:yU (x :: s) n = true:=(JX hb (by omega)).2 (.inr hn);rw [<- h3,JX ha (by omega)] at h4;rcases h4 with h4 | h4
   ·omega
   ·exact h4

def putS (n:Int) (s:Bool × List Int) (x:Int):Bool × List Int:=
 let t:=if s.1 = false /\ n <= x then (true,s.2 ++ [n]) else s
 if x = n then t else (t.1,t.2 ++ [x])
def putP (l:List Int) (n:Int):List Int:=let t:=l.foldl (putS n) (false,[]);if t.1 then t.2 else t.2 ++ [n]
abbrev Up (l:List Int):Prop:=l.Pairwise (· < ·)
theorem Wp {l:List Int} {z:Int}:Up (l ++ [z]) ↔ Up l /\ ∀ p ∈ l,p < z:=by
 unfold Up;rw [List.pairwise_append];simp
theorem Ys (n:Int):∀ (l:List Int) (s:Bool × List Int),Up l -> Up s.2 -> (∀ p ∈ s.2,∀ x ∈ l,p < x \/ (p = n /\ s.1 = true /\ p <= x)) -> (s.1 = true -> n ∈ s.2) -> (s.1 = false -> ∀ p ∈ s.2,p < n) ->
  Up (l.foldl (putS n) s).2 /\ (∀ m,m ∈ (l.foldl (putS n) s).2 ↔ m ∈ s.2 \/ (m ∈ l /\ m ≠ n) \/ (m = n /\ (l.foldl (putS n) s).1 = true)) /\ ((l.foldl (putS n) s).1 = false -> ∀ p ∈ (l.foldl (putS n) s).2,p < n) /\ (l.foldl (putS n) s).2.length <= s.2.length + l.length + (if s.1 then 0 else 1) /\ ((l.foldl (putS n) s).1 = false -> (l.foldl (putS n) s).2.length <= s.2.length + l.length)
 | [],s,_,hs,_,h2,h3=>by
  refine ⟨hs,fun m=>?_,h3,by simp,by simp⟩;simp only [List.foldl_nil,List.not_mem_nil,false_and,false_or];exact ⟨fun h=>.inl h,fun h=>h.elim id fun ⟨e,h⟩=>e ▸ h2 h⟩
 | x :: r,(d,out),hl,hs,h1,h2,h3=>by
  rw [List.foldl_cons];have hl':=List.pairwise_cons.1 hl;simp only at hs h1 h2 h3
  by_cases hc:d = false /\ n <= x
  ·obtain ⟨rfl,hnx⟩:=hc
   by_cases hx:x = n
   ·have e:putS n (false,out) x = (true,out ++ [n]):=by simp [putS,hx]
    rw [e];obtain ⟨i1,i2,i3,i4,i5⟩:=Ys n r (true,out ++ [n]) hl'.2 (Wp.2 ⟨hs,h3 rfl⟩) (fun p hp y hy=>by
     have:=hl'.1 y hy;rcases List.mem_append.1 hp with hp | hp
     ·have:=h3 rfl p hp;left;omega
     ·simp at hp;left;omega) (fun _=>by simp) (fun h=>by cases h)
    refine ⟨i1,fun m=>?_,i3,?_,?_⟩
    ·rw [i2];simp only [List.mem_append,List.mem_cons,List.not_mem_nil,or_false]
     constructor
     ·rintro ((h | h) | h | h)
      ·exact .inl h
      ·refine .inr (.inr ⟨h,?_⟩)
       cases hb:(r.foldl (putS n) (true,out ++ [n])).1 with
       | true=>rfl
       | false=>have:=i3 hb n ((i2 n).2 (.inl (by simp)));omega
      ·exact .inr (.inl ⟨.inr h.1,h.2⟩)
      ·exact .inr (.inr h)
     ·rintro (h | ⟨h | h,h'⟩ | h)
      ·exact .inl (.inl h)
      ·exact absurd (h.trans hx) h'
      ·exact .inr (.inl ⟨h,h'⟩)
      ·exact .inr (.inr h)
    ·simp at i4 ⊢;omega
    ·intro hf;have:=i5 hf;simp at this ⊢;omega
   ·have e:putS n (false,out) x = (true,out ++ [n] ++ [x]):=by simp [putS,hx,hnx]
    rw [e];obtain ⟨i1,i2,i3,i4,i5⟩:=Ys n r (true,out ++ [n] ++ [x]) hl'.2 (Wp.2 ⟨Wp.2 ⟨hs,h3 rfl⟩,fun p hp=>by
     rcases List.mem_append.1 hp with hp | hp
     ·have:=h3 rfl p hp;omega
     ·simp at hp;omega⟩) (fun p hp y hy=>by
     have:=hl'.1 y hy;simp only [List.mem_append,List.mem_singleton] at hp;rcases hp with (hp | hp) | hp
     ·have:=h3 rfl p hp;left;omega
     ·left;omega
     ·left;omega) (fun _=>by simp) (fun h=>by cases h)
    refine ⟨i1,fun m=>?_,i3,?_,?_⟩
    ·rw [i2];simp only [List.mem_append,List.mem_cons,List.not_mem_nil,or_false]
     constructor
     ·rintro (((h | h) | h) | h | h)
      ·exact .inl h
      ·refine .inr (.inr ⟨h,?_⟩)
       cases hb:(r.foldl (putS n) (true,out ++ [n] ++ [x])).1 with
       | true=>rfl
       | false=>have:=i3 hb n ((i2 n).2 (.inl (by simp)));omega
      ·exact .inr (.inl ⟨.inl h,fun e=>hx (h.symm.trans e)⟩)
      ·exact .inr (.inl ⟨.inr h.1,h.2⟩)
      ·exact .inr (.inr h)
     ·rintro (h | ⟨h | h,h'⟩ | h)
      ·exact .inl (.inl (.inl h))
      ·exact .inl (.inr h)
      ·exact .inr (.inl ⟨h,h'⟩)
      ·exact .inr (.inr h)
    ·simp at i4 ⊢;omega
    ·intro hf;have:=i5 hf;simp at this ⊢;exfalso;have:=i3 hf n ((i2 n).2 (.inl (by simp)));omega
  ·by_cases hx:x = n
   ·have hd:d = true:=by cases d with | true=>rfl | false=>exact absurd ⟨rfl,by omega⟩ hc
    subst hd;have e:putS n (true,out) x = (true,out):=by simp [putS,hx]
    rw [e];obtain ⟨i1,i2,i3,i4,i5⟩:=Ys n r (true,out) hl'.2 hs (fun p hp y hy=>h1 p hp y (List.mem_cons_of_mem _ hy)) h2 h3;refine ⟨i1,fun m=>?_,i3,?_,?_⟩
    ·rw [i2];simp only [List.mem_cons]
     constructor
     ·rintro (h | h | h)
      ·exact .inl h
      ·exact .inr (.inl ⟨.inr h.1,h.2⟩)
      ·exact .inr (.inr h)
     ·rintro (h | ⟨h | h,h'⟩ | h)
      ·exact .inl h
      ·exact absurd (h.trans hx) h'
      ·exact .inr (.inl ⟨h,h'⟩)
      ·exact .inr (.inr h)
    ·simp at i4 ⊢;omega
    ·intro hf;have:=i5 hf;simp at this ⊢;omega
   ·have e:putS n (d,out) x = (d,out ++ [x]):=by
     unfold putS;simp only [hc,if_false,hx]
    rw [e];have hlt:d = false -> x < n:=fun h=>by
     have:¬ n <= x:=fun h'=>hc ⟨h,h'⟩
     omega
    obtain ⟨i1,i2,i3,i4,i5⟩:=Ys n r (d,out ++ [x]) hl'.2 (Wp.2 ⟨hs,fun p hp=>by
     rcases h1 p hp x (by simp) with h | h
     ·exact h
     ·omega⟩) (fun p hp y hy=>by
     rcases List.mem_append.1 hp with hp | hp
     ·exact h1 p hp y (List.mem_cons_of_mem _ hy)
     ·simp at hp;have:=hl'.1 y hy;left;omega) (fun h=>List.mem_append_left _ (h2 h)) (fun h p hp=>by
     rcases List.mem_append.1 hp with hp | hp
     ·exact h3 h p hp
     ·simp at hp;rw [hp];exact hlt h)
    refine ⟨i1,fun m=>?_,i3,?_,?_⟩
    ·rw [i2];simp only [List.mem_append,List.mem_cons,List.not_mem_nil,or_false]
     constructor
     ·rintro ((h | h) | h | h)
      ·exact .inl h
      ·exact .inr (.inl ⟨.inl h,fun e=>hx (h.symm.trans e)⟩)
      ·exact .inr (.inl ⟨.inr h.1,h.2⟩)
      ·exact .inr (.inr h)
     ·rintro (h | ⟨h | h,h'⟩ | h)
      ·exact .inl (.inl h)
      ·exact .inl (.inr h)
      ·exact .inr (.inl ⟨h,h'⟩)
      ·exact .inr (.inr h)
    ·simp at i4 ⊢;omega
    ·intro hf;have:=i5 hf;simp at this ⊢;omega
theorem XR {l:List Int} (h:Up l) (n:Int):Up (putP l n) /\ (∀ m,m ∈ putP l n ↔ m ∈ l \/ m = n) /\ (putP l n).length <= l.length + 1:=by
 obtain ⟨i1,i2,i3,i4,i5⟩:=Ys n l (false,[]) h (by simp [Up]) (by simp) (by simp) (by simp);unfold putP;simp only
 cases hb:(l.foldl (putS n) (false,[])).1 with
 | true=>
  simp only [if_true];refine ⟨i1,fun m=>?_,by simpa using i4⟩;rw [i2,hb];simp only [List.not_mem_nil,false_or,and_true]
  constructor
  ·rintro (h | h)
   ·exact .inl h.1
   ·exact .inr h
  ·rintro (h | h)
   ·by_cases e:m = n
    ·exact .inr e
    ·exact .inl ⟨h,e⟩
   ·exact .inr h
 | false=>
  have:=i5 hb;rw [if_neg (by simp)];refine ⟨Wp.2 ⟨i1,i3 hb⟩,fun m=>?_,by simp at this ⊢;omega⟩;simp only [List.mem_append,List.mem_singleton,i2,hb,List.not_mem_nil,false_or]
  constructor
  ·rintro ((h | h) | h)
   ·exact .inl h.1
   ·cases h.2
   ·exact .inr h
  ·rintro (h | h)
   ·by_cases e:m = n
    ·exact .inr e
    ·exact .inl (.inl ⟨h,e⟩)
   ·exact .inr h
def ptS (out:List Int) (x:RN):List Int:=if uf x then putP (putP out x.lo) (x.hi + 1) else out
def Ua (l:List RN):List Int:=l.foldl ptS []
theorem Ub : ∀ (l:List RN) (out:List Int),Up out -> Up (l.foldl ptS out) /\ (∀ m,m ∈ l.foldl ptS out ↔ m ∈ out \/ ∃ x ∈ l,uf x = true /\ (m = x.lo \/ m = x.hi + 1)) /\ (l.foldl ptS out).length <= out.length + 2 * l.length
 | [],out,h=>⟨h,fun m=>by simp,by simp⟩
 | x :: r,out,h=>by
  rw [List.foldl_cons];obtain ⟨j1,j2,j3⟩:=XR h x.lo;obtain ⟨k1,k2,k3⟩:=XR j1 (x.hi + 1)
  by_cases hm:uf x = true
  ·have e:ptS out x = putP (putP out x.lo) (x.hi + 1):=by simp [ptS,hm]
   rw [e];obtain ⟨i1,i2,i3⟩:=Ub r _ k1;refine ⟨i1,fun m=>?_,by simp;omega⟩;rw [i2,k2,j2]
   constructor
   ·rintro (((h | h) | h) | ⟨y,h1,h2⟩)
    ·exact .inl h
    ·exact .inr ⟨x,by simp,hm,.inl h⟩
    ·exact .inr ⟨x,by simp,hm,.inr h⟩
    ·exact .inr ⟨y,by simp [h1],h2⟩
   ·rintro (h | ⟨y,h1,h2,h3⟩)
    ·exact .inl (.inl (.inl h))
    ·rcases List.mem_cons.1 h1 with rfl | h1
     ·rcases h3 with h3 | h3
      ·exact .inl (.inl (.inr h3))
      ·exact .inl (.inr h3)
     ·exact .inr ⟨y,h1,h2,h3⟩
  ·have e:ptS out x = out:=by simp [ptS,hm]
   rw [e];obtain ⟨i1,i2,i3⟩:=Ub r _ h;refine ⟨i1,fun m=>?_,by simp;omega⟩;rw [i2]
   constructor
   ·rintro (h | ⟨y,h1,h2⟩)
    ·exact .inl h
    ·exact .inr ⟨y,by simp [h1],h2⟩
   ·rintro (h | ⟨y,h1,h2,h3⟩)
    ·exact .inl h
    ·rcases List.mem_cons.1 h1 with rfl | h1
     ·exact absurd h2 hm
     ·exact .inr ⟨y,h1,h2,h3⟩
theorem Vi (l:List RN):Up (Ua l) /\ (∀ m,m ∈ Ua l ↔ ∃ x ∈ l,uf x = true /\ (m = x.lo \/ m = x.hi + 1)) /\ (Ua l).length <= 2 * l.length:=by
 obtain ⟨h1,h2,h3⟩:=Ub l [] (by simp [Up]);exact ⟨h1,fun m=>by rw [Ua,h2];simp,by simpa [Ua] using h3⟩

def qV (out:List RN) (p:Int) (z:RN -> RN) (x:RN):List RN:=match out.getLast? with
 | some y=>if y.hi + 1 = p then out.dropLast ++ [z y] else out ++ [x]
 | none=>out ++ [x]
def qW (op:Bool -> Bool -> Bool) (a b:List RN) (out:List RN) (pq:Int × Int):List RN:=
 if op (yU a pq.1) (yU b pq.1) then qV out pq.1 (fun y=>⟨y.lo,pq.2 - 1⟩) ⟨pq.1,pq.2 - 1⟩ else out
def yw (l:List Int):List (Int × Int):=l.zip l.tail
def Zs (op:Bool -> Bool -> Bool) (a b:List RN):List RN:=(yw (Ua (a ++ b))).foldl (qW op a b) []

theorem QR (p:Int) (z:RN -> RN) (x:RN):qV [] p z x = [x]:=rfl
theorem Wq (l:List RN) (y:RN) (p:Int) (z:RN -> RN) (x:RN):qV (l ++ [y]) p z x = if y.hi + 1 = p then l ++ [z y] else l ++ [y] ++ [x]:=by simp [qV]
theorem xK {α:Type} (l:List α):l = [] \/ ∃ r y,l = r ++ [y]:=by
 rcases List.eq_nil_or_concat l with h | ⟨r,y,h⟩
 ·exact .inl h
 ·exact .inr ⟨r,y,by simpa using h⟩

theorem Uc (op:Bool -> Bool -> Bool) (a b:List RN):∀ (P:List Int) (p:Int) (out:List RN),Up (p :: P) -> (∀ q ∈ p :: P,1 <= q /\ q <= 281474976710656) -> Nf out -> (∀ y ∈ out,y.hi < p) ->
  Nf ((yw (p :: P)).foldl (qW op a b) out) /\ (∀ n,yU ((yw (p :: P)).foldl (qW op a b) out) n = true ↔ yU out n = true \/ ∃ pq ∈ yw (p :: P),pq.1 <= n /\ n < pq.2 /\ op (yU a pq.1) (yU b pq.1) = true) /\ ((yw (p :: P)).foldl (qW op a b) out).length <= out.length + P.length
 | [],p,out,_,_,h,_=>by simp [yw,h]
 | q :: P,p,out,hu,hr,h,hy=>by
  have e:yw (p :: q :: P) = (p,q) :: yw (q :: P):=rfl;rw [e,List.foldl_cons];have hu':=List.pairwise_cons.1 hu;have hpq:p < q:=hu'.1 q (by simp);have hp:=hr p (by simp);have hq:=hr q (by simp);have step:Nf (qW op a b out (p,q)) /\ (∀ n,yU (qW op a b out (p,q)) n = true ↔ yU out n = true \/ (p <= n /\ n < q /\ op (yU a p) (yU b p) = true)) /\ (∀ y ∈ qW op a b out (p,q),y.hi < q) /\ (qW op a b out (p,q)).length <= out.length + 1:=by
   unfold qW;simp only
   by_cases hop:op (yU a p) (yU b p) = true
   ·rw [if_pos hop];rcases xK out with rfl | ⟨l,y,rfl⟩
    ·rw [QR];have hm:uf (⟨p,q - 1⟩:RN) = true:=zc.2 ⟨hp.1,by simp only;omega,by simp only;omega⟩;refine ⟨⟨hm,by simp,trivial⟩,fun n=>?_,fun y hy=>?_,by simp⟩
     ·rw [wx,wY];have:=zc.1 hm;simp only at this ⊢;simp only [qQ,Bool.false_eq_true,false_or,hop,and_true];omega
     ·simp at hy;subst hy;simp only;omega
    ·rw [Wq];obtain ⟨n1,n2,n3⟩:=ZB.1 h;have hym:=zc.1 n2;have hyp:=hy y (by simp)
     by_cases hadj:y.hi + 1 = p
     ·rw [if_pos hadj];have hm:uf (⟨y.lo,q - 1⟩:RN) = true:=zc.2 ⟨hym.1,by simp only;omega,by simp only;omega⟩;refine ⟨ZB.2 ⟨n1,hm,n3⟩,fun n=>?_,fun z hz=>?_,by simp⟩
      ·rw [vi,vi,wx,wx,Bool.or_eq_true,Bool.or_eq_true,wY,wY];have:=zc.1 hm;simp only at this ⊢;simp only [hop,and_true]
       constructor
       ·rintro (h | h)
        ·exact .inl (.inl h)
        ·by_cases hc:n <= y.hi
         ·exact .inl (.inr ⟨hym,h.2.1,hc⟩)
         ·right;omega
       ·rintro ((h | h) | h)
        ·exact .inl h
        ·right;omega
        ·right;omega
      ·rcases List.mem_append.1 hz with hz | hz
       ·have:=hy z (by simp [hz]);omega
       ·simp at hz;subst hz;simp only;omega
     ·rw [if_neg hadj];have hm:uf (⟨p,q - 1⟩:RN) = true:=zc.2 ⟨hp.1,by simp only;omega,by simp only;omega⟩;refine ⟨ZB.2 ⟨h,hm,fun z hz=>?_⟩,fun n=>?_,fun z hz=>?_,by simp⟩
      ·simp only;rcases List.mem_append.1 hz with hz | hz
       ·have:=n3 z hz;omega
       ·simp at hz;subst hz;omega
      ·rw [vi (l ++ [y]),wx,Bool.or_eq_true,wY];have:=zc.1 hm;simp only at this ⊢;simp only [hop,and_true]
       constructor
       ·rintro (h | h)
        ·exact .inl h
        ·right;omega
       ·rintro (h | h)
        ·exact .inl h
        ·right;omega
      ·rcases List.mem_append.1 hz with hz | hz
       ·have:=hy z hz;omega
       ·simp at hz;subst hz;simp only;omega
   ·rw [if_neg hop];refine ⟨h,fun n=>?_,fun y hy'=>by have:=hy y hy';omega,by omega⟩;exact ⟨fun h=>.inl h,fun h=>h.elim id fun h=>absurd h.2.2 hop⟩
  obtain ⟨s1,s2,s3,s4⟩:=step;obtain ⟨i1,i2,i3⟩:=Uc op a b P q _ hu'.2 (fun z hz=>hr z (List.mem_cons_of_mem _ hz)) s1 s3;refine ⟨i1,fun n=>?_,by simp;omega⟩;rw [i2,s2];simp only [List.mem_cons,exists_eq_or_imp]
  constructor
  ·rintro ((h | h) | h)
   ·exact .inl h
   ·exact .inr (.inl h)
   ·exact .inr (.inr h)
  ·rintro (h | h | h)
   ·exact .inl (.inl h)
   ·exact .inl (.inr h)
   ·exact .inr h

theorem XS : ∀ {P:List Int},Up P -> ∀ pq ∈ yw P,pq.1 ∈ P /\ pq.2 ∈ P /\ pq.1 < pq.2 /\ ∀ m ∈ P,m <= pq.1 \/ pq.2 <= m
 | [],_,pq,h=>by simp [yw] at h
 | [p],_,pq,h=>by simp [yw] at h
 | p :: q :: P,hu,pq,h=>by
  have e:yw (p :: q :: P) = (p,q) :: yw (q :: P):=rfl;rw [e] at h;have hu':=List.pairwise_cons.1 hu;rcases List.mem_cons.1 h with rfl | h
  ·refine ⟨by simp,by simp,hu'.1 q (by simp),fun m hm=>?_⟩;rcases List.mem_cons.1 hm with rfl | hm
   ·simp
   ·right
    rcases List.mem_cons.1 hm with rfl | hm
    ·simp
    ·have:=(List.pairwise_cons.1 hu'.2).1 m hm;simp only;omega
  ·obtain ⟨h1,h2,h3,h4⟩:=XS hu'.2 pq h;refine ⟨List.mem_cons_of_mem _ h1,List.mem_cons_of_mem _ h2,h3,fun m hm=>?_⟩;rcases List.mem_cons.1 hm with rfl | hm
   ·left;have:=hu'.1 _ h1;omega
   ·exact h4 m hm
theorem Vj : ∀ {P:List Int},Up P -> ∀ {u v n:Int},u ∈ P -> v ∈ P -> u <= n -> n < v -> ∃ pq ∈ yw P,pq.1 <= n /\ n < pq.2
 | [],_,_,_,_,h,_,_,_=>by simp at h
 | [p],_,u,v,n,h1,h2,h3,h4=>by simp at h1 h2;omega
 | p :: q :: P,hu,u,v,n,h1,h2,h3,h4=>by
  have e:yw (p :: q :: P) = (p,q) :: yw (q :: P):=rfl;have hu':=List.pairwise_cons.1 hu
  by_cases hc:n < q
  ·refine ⟨(p,q),by rw [e];simp,?_,hc⟩;rcases List.mem_cons.1 h1 with rfl | h1
   ·exact h3
   ·have:q <= u:=by
     rcases List.mem_cons.1 h1 with rfl | h1
     ·omega
     ·have:=(List.pairwise_cons.1 hu'.2).1 u h1;omega
    simp only;omega
  ·have hv:v ∈ q :: P:=by
    rcases List.mem_cons.1 h2 with rfl | h2
    ·have:=hu'.1 q (by simp);omega
    ·exact h2
   obtain ⟨pq,h5,h6⟩:=Vj hu'.2 (u:=q) (by simp) hv (by omega) h4;exact ⟨pq,by rw [e];exact List.mem_cons_of_mem _ h5,h6⟩
theorem zsa (P:List Int):(yw P).length = P.length - 1:=by simp [yw]

theorem uc {l:List RN} {P:List Int} (hP:∀ x ∈ l,uf x = true -> x.lo ∈ P /\ x.hi + 1 ∈ P) {p q n:Int} (h1:∀ m ∈ P,m <= p \/ q <= m) (h2:p <= n) (h3:n < q):yU l n = yU l p:=by
 rw [Bool.eq_iff_iff,xE,xE]
 constructor
 ·rintro ⟨x,hx,hm,h4,h5⟩;obtain ⟨h6,h7⟩:=hP x hx hm;have:=h1 _ h6;have:=h1 _ h7;exact ⟨x,hx,hm,by omega,by omega⟩
 ·rintro ⟨x,hx,hm,h4,h5⟩;obtain ⟨h6,h7⟩:=hP x hx hm;have:=h1 _ h6;have:=h1 _ h7;exact ⟨x,hx,hm,by omega,by omega⟩
theorem yJ (op:Bool -> Bool -> Bool) (h0:op false false = false) (a b:List RN):Nf (Zs op a b) /\ (∀ n,yU (Zs op a b) n = op (yU a n) (yU b n)) /\ (Zs op a b).length <= 2 * (a.length + b.length):=by
 obtain ⟨p1,p2,p3⟩:=Vi (a ++ b);have hrange:∀ q ∈ Ua (a ++ b),1 <= q /\ q <= 281474976710656:=fun q hq=>by
  obtain ⟨x,_,h2,h3⟩:=(p2 q).1 hq;have:=zc.1 h2;omega
 have main:Nf (Zs op a b) /\ (∀ n,yU (Zs op a b) n = true ↔ ∃ pq ∈ yw (Ua (a ++ b)),pq.1 <= n /\ n < pq.2 /\ op (yU a pq.1) (yU b pq.1) = true) /\ (Zs op a b).length <= (Ua (a ++ b)).length:=by
  unfold Zs
  generalize hP:Ua (a ++ b) = P at p1 hrange
  cases P with
  | nil=>simp [yw,Nf]
  | cons p P=>
   obtain ⟨i1,i2,i3⟩:=Uc op a b P p [] p1 hrange trivial (by simp);exact ⟨i1,fun n=>by rw [i2];simp,by simp at i3 ⊢;omega⟩
 obtain ⟨m1,m2,m3⟩:=main;refine ⟨m1,fun n=>?_,by simp at p3;omega⟩;have hPa:∀ x ∈ a,uf x = true -> x.lo ∈ Ua (a ++ b) /\ x.hi + 1 ∈ Ua (a ++ b):=fun x hx hm=>⟨(p2 _).2 ⟨x,by simp [hx],hm,.inl rfl⟩,(p2 _).2 ⟨x,by simp [hx],hm,.inr rfl⟩⟩
 have hPb:∀ x ∈ b,uf x = true -> x.lo ∈ Ua (a ++ b) /\ x.hi + 1 ∈ Ua (a ++ b):=fun x hx hm=>⟨(p2 _).2 ⟨x,by simp [hx],hm,.inl rfl⟩,(p2 _).2 ⟨x,by simp [hx],hm,.inr rfl⟩⟩
 rw [Bool.eq_iff_iff,m2]
 constructor
 ·rintro ⟨pq,h1,h2,h3,h4⟩;obtain ⟨_,_,_,h5⟩:=XS p1 pq h1
  rwa [uc hPa h5 h2 h3,uc hPb h5 h2 h3]
 ·intro h;have hex:∃ u ∈ Ua (a ++ b),∃ v ∈ Ua (a ++ b),u <= n /\ n < v:=by
   cases ha:yU a n with
   | true=>
    obtain ⟨x,h1,h2,h3,h4⟩:=xE.1 ha;exact ⟨_,(hPa x h1 h2).1,_,(hPa x h1 h2).2,h3,by omega⟩
   | false=>
    cases hb:yU b n with
    | true=>
     obtain ⟨x,h1,h2,h3,h4⟩:=xE.1 hb;exact ⟨_,(hPb x h1 h2).1,_,(hPb x h1 h2).2,h3,by omega⟩
    | false=>rw [ha,hb,h0] at h;cases h
  obtain ⟨u,hu,v,hv,h1,h2⟩:=hex;obtain ⟨pq,h3,h4,h5⟩:=Vj p1 hu hv h1 h2;obtain ⟨_,_,_,h6⟩:=XS p1 pq h3;exact ⟨pq,h3,h4,h5,by rwa [<- uc hPa h6 h4 h5,<- uc hPb h6 h4 h5]⟩

def nrm (l:List RN):List RN:=Zs (· || ·) l []
theorem Wr (l:List RN):Nf (nrm l):=(yJ _ rfl l []).1
theorem vY (l:List RN) (n:Int):yU (nrm l) n = yU l n:=by rw [nrm,(yJ _ rfl l []).2.1];simp
theorem YI (l:List RN):(nrm l).length <= 2 * l.length:=by
 have:=(yJ (· || ·) rfl l []).2.2;rw [List.length_nil,Nat.add_zero] at this;exact this
theorem nrm_of {l r:List RN} (h:Nf r) (h2:∀ n,yU r n = yU l n):r = nrm l:=Vh h (Wr l) fun n=>by rw [h2,vY]
theorem qX {l:List RN} (h:Nf l):nrm l = l:=(nrm_of h fun _=>rfl).symm


theorem zta (x y:RN):(decide (x.lo = y.lo) && decide (x.hi = y.hi)) = decide (x = y):=by
 rw [Bool.eq_iff_iff]
 cases x;cases y
 simp
theorem eqLoop {body:Int -> M (Step Int (Ex Unit Bool))} (a b:List RN) (hl:a.length = b.length) (hn:a.length <= 1000000000000)
  (hb:∀ i:Int,body i = cond (decide (i < (a.length:Int))) (M.bind (M.idx a i) fun x=>M.bind (M.idx b i) fun y=>cond (!(decide (x.lo = y.lo) && decide (x.hi = y.hi))) (M.pure (.done (.ret false))) (M.pure (.next (IntKind.i64.wrap (i + 1))))) (M.pure (.done (.brk ())))) :
  M.bind (M.loop body 0) (M.exk fun _=>M.pure true) = pure (decide (a = b)):=by
 have:=yk (body:=body) a (fun i=>(i:Int)) (fun i x=>decide (b[i]? = some x)) (.brk ()) (.ret false) (fun i x hx hi=>by
  have hb':i < b.length:=by omega
  rw [hb,zF hx,zF (List.getElem?_eq_getElem hb'),zh (by omega)];simp only [zA,List.getElem?_eq_getElem hb',Option.some.injEq,zta];have:decide ((i:Int) < (a.length:Int)) = true:=by simpa using hi
  rw [this,cond_true]
  by_cases he:b[i] = x
  ·subst he;simp
  ·rw [if_neg (by simpa using he)];have:decide (x = b[i]) = false:=by simpa using fun h=>he h.symm
   rw [this];rfl) (by rw [hb];simp)
 rw [show (0:Int) = ((0:Nat):Int) from rfl,this]
 by_cases he:a = b
 ·subst he;rw [if_pos]
  ·simp [zA,YB]
  ·rw [List.all_eq_true];intro ⟨x,i⟩ hx;rw [List.mk_mem_zipIdx_iff_getElem?] at hx;simpa using hx
 ·rw [if_neg]
  ·simp [he,zA,JA]
  ·intro hall;rw [List.all_eq_true] at hall;apply he;apply List.ext_getElem (by omega);intro i h1 h2;have:=hall (a[i],i) (by rw [List.mk_mem_zipIdx_iff_getElem?];exact List.getElem?_eq_getElem h1);simp [h2] at this;exact this.symm
theorem req_eq (a b:List RN) (h:a.length <= 1000000000000):Jz a b = pure (decide (a = b)):=by
 unfold Jz
 by_cases hl:(a.length:Int) = b.length
 ·simp only [hl,decide_true,Bool.not_true,cond_false];exact eqLoop a b (by omega) h fun i=>rfl
 ·have hne:a ≠ b:=fun e=>hl (by rw [e])
  simp [hl,hne]
theorem zua (x:RN):WV x = pure (uf x):=by
 unfold WV;rw [zX,zX,zA]
 rfl
theorem JY (l:List RN) (n:Int) (h:l.length <= 1000000000000):XH l n = pure (yU l n):=by
 unfold XH;have:=yk (body:=ZS l n) l (fun i=>(i:Int)) (fun _ x=>!inR n x) (.brk ()) (.ret true) (fun i x hx hi=>by
  unfold ZS;have h1:decide ((i:Int) < (l.length:Int)) = true:=by simpa using hi
  simp only [h1,cond_true,zF hx,zA,zua,zB,zh (show i < 9223372036854775807 by omega),zX];unfold inR
  cases uf x <;> cases decide (x.lo <= n) <;> cases decide (n <= x.hi) <;> rfl) (by unfold ZS;simp)
 rw [show (0:Int) = ((0:Nat):Int) from rfl,this,zA];have e:l.zipIdx.all (fun y=>!inR n y.1) = !yU l n:=by
  unfold yU;rw [Bool.eq_iff_iff];simp only [List.all_eq_true,Bool.not_eq_true',List.any_eq_false]
  constructor
  ·intro h x hx;obtain ⟨i,hi,he⟩:=List.getElem_of_mem hx;have:=h (x,i) (by rw [List.mk_mem_zipIdx_iff_getElem?];rw [List.getElem?_eq_getElem hi,he]);simpa using this
  ·intro h y hy;have:=List.fst_mem_of_mem_zipIdx hy;have:=h _ this;simpa using this
 simp only [e]
 cases yU l n <;> rfl
theorem zva (l:List Int) (n:Int) (h:l.length <= 100000000000):WW l n = pure (putP l n):=by
 unfold WW;have:=uX (body:=ZT l n) l (fun i (t:Bool × List Int)=>(t.1,(i:Int),t.2)) (putS n) (fun t=>pure t) (fun i t=>t.2.length <= 2 * i) (fun i x t hx hi hI=>by
  obtain ⟨d,out⟩:=t;simp only at hI;have h1:decide ((i:Int) < (l.length:Int)) = true:=by simpa using hi
  refine ⟨?_,?_⟩
  ·unfold ZT putS;simp only [h1,cond_true,zF hx,zA,zh (show i < 9223372036854775807 by omega)]
   cases d with
   | true=>
    by_cases hc:x = n
    ·simp [hc,zA]
    ·simp only [Bool.not_true,cond_false,zA,hc,decide_false,Bool.not_false,cond_true,if_false];rw [zE (by simp;omega)];simp [zA]
   | false=>
    by_cases hc1:n <= x
    ·simp only [Bool.not_false,cond_true,zA,hc1,decide_true];rw [zE (by simp;omega),zA]
     by_cases hc:x = n
     ·simp [hc,zA]
     ·simp only [hc,decide_false,Bool.not_false,cond_true];rw [zE (by simp;omega)];simp [zA]
    ·simp only [Bool.not_false,cond_true,zA,hc1,decide_false,cond_false];have hc:x ≠ n:=by omega
     simp only [hc,decide_false,Bool.not_false,cond_true];rw [zE (by simp;omega)];simp [zA]
  ·unfold putS;simp only
   split <;> split <;> simp <;> omega) (fun t _=>by unfold ZT;simp [zA]) (false,[]) (by simp)
 rw [show ((false,(0:Int),([]:List Int)):Bool × Int × List Int) = (false,((0:Nat):Int),[]) from rfl,this,zA];unfold putP;have hlen:(l.foldl (putS n) (false,[])).2.length <= 2 * l.length:=by
  have:∀ (l:List Int) (s:Bool × List Int),(l.foldl (putS n) s).2.length <= s.2.length + 2 * l.length:=by
   intro l
   induction l with
   | nil=>intro s;simp
   | cons x r ih=>
    intro s;rw [List.foldl_cons];have:=ih (putS n s x);have h2:(putS n s x).2.length <= s.2.length + 2:=by
     unfold putS;simp only
     split <;> split <;> simp
    simp;omega
  simpa using this l (false,[])
 generalize l.foldl (putS n) (false,[]) = t at hlen
 obtain ⟨d,out⟩:=t
 cases d with
 | true=>rfl
 | false=>
  simp only [Bool.not_false,cond_true];rw [zE (by simp at hlen ⊢;omega)]
  rfl
theorem rpts_eq (a b:List RN) (h:a.length + b.length <= 10000000000):ZU a b = pure (Ua (a ++ b)):=by
 unfold ZU;rw [zE (by simp;omega),zE (by simp;omega)];have hup:∀ i,Up (((a ++ b).take i).foldl ptS []) /\ (((a ++ b).take i).foldl ptS []).length <= 2 * (a ++ b).length:=fun i=>by
  obtain ⟨h1,_,h3⟩:=Ub ((a ++ b).take i) [] (by simp [Up]);refine ⟨h1,?_⟩;have:((a ++ b).take i).length <= (a ++ b).length:=by simp;omega
  simp only [List.length_nil,Nat.zero_add] at h3;omega
 have:=uX (body:=wj a b) (a ++ b) (fun i (t:List Int)=>(t,(i:Int))) ptS (fun t=>pure t) (fun i t=>t = ((a ++ b).take i).foldl ptS []) (fun i x t hx hi hI=>by
  have h1:decide ((i:Int) < ((a ++ b).length:Int)) = true:=decide_eq_true (by omega);have hlen:(a ++ b).length <= 10000000000:=by simp;omega
  obtain ⟨u1,u2⟩:=hup i;rw [<- hI] at u1 u2;refine ⟨?_,?_⟩
  ·unfold wj ptS;simp only [List.nil_append,h1,cond_true,zF hx,zA,zh (show i < 9223372036854775807 by omega),zua,zB]
   cases hm:uf x with
   | false=>simp [zA]
   | true=>
    have hm':=zc.1 hm;have hp:=XR u1 x.lo;rw [cond_true,zva _ _ (by omega),zB,zA,wU64 (by omega) (by omega),zva _ _ (by omega),zB];simp [zA]
  ·rw [List.take_add_one,hx];simp [hI]) (fun t _=>by unfold wj;simp [zA]) [] (by simp)
 rw [show (([]:List Int),(0:Int)) = ([],((0:Nat):Int)) from rfl,this];simp only [zA]
 rfl
theorem jZ {P:List Int} {i:Nat} {pq:Int × Int} (h:(yw P)[i]? = some pq):P[i]? = some pq.1 /\ P[i + 1]? = some pq.2:=by
 unfold yw at h;rw [List.getElem?_zip_eq_some] at h;obtain ⟨h1,h2⟩:=h;rw [List.getElem?_tail] at h2;exact ⟨h1,h2⟩
theorem Ws (op:Bool -> Bool -> Bool) (how:Int) (hop:∀ x y,op x y = if how = 2 then (x && !y) else if how = 1 then (x && y) else (x || y)) (_h0:op false false = false) (a b:List RN) (h:a.length + b.length <= 10000000000):XI a b how = pure (Zs op a b):=by
 unfold XI;rw [rpts_eq a b h,zB,zA];obtain ⟨p1,p2,p3⟩:=Vi (a ++ b);have hrange:∀ q ∈ Ua (a ++ b),1 <= q /\ q <= 281474976710656:=fun q hq=>by
  obtain ⟨x,_,h2,h3⟩:=(p2 q).1 hq;have:=zc.1 h2;omega
 unfold Zs
 generalize Ua (a ++ b) = P at p1 hrange p3
 simp only [List.length_append] at p3;have hinv:∀ i,i <= (yw P).length -> Nf (((yw P).take i).foldl (qW op a b) []) /\ (((yw P).take i).foldl (qW op a b) []).length <= P.length:=fun i hi=>by
  cases P with
  | nil=>simp [yw,Nf]
  | cons p P=>
   have key:(yw (p :: P)).take i = yw (p :: P.take i):=by
    unfold yw;simp only [List.tail_cons];clear hi p1 hrange p3
    induction i generalizing p P with
    | zero=>simp
    | succ i ih=>
     cases P with
     | nil=>simp
     | cons q P=>
      simp only [List.zip_cons_cons,List.take_succ_cons];rw [ih q P]
   rw [key];have hsub:(p :: P.take i).Sublist (p :: P):=List.Sublist.cons_cons _ (List.take_sublist _ _);obtain ⟨i1,_,i3⟩:=Uc op a b (P.take i) p [] (List.Pairwise.sublist hsub p1) (fun q hq=>hrange q (hsub.subset hq)) trivial (by simp);refine ⟨i1,?_⟩;simp at i3 ⊢;omega
 have:=uX (body:=ZV P a b how) (yw P) (fun i (t:List RN)=>((i:Int),t)) (qW op a b) (fun t=>pure t) (fun i t=>i <= (yw P).length /\ t = ((yw P).take i).foldl (qW op a b) []) (fun i pq t hx hi hI=>by
  obtain ⟨hI1,hI⟩:=hI;obtain ⟨g1,g2⟩:=jZ hx;have hlt:i + 1 < P.length:=(List.getElem?_eq_some_iff.1 g2).1;have hPl:P.length <= 20000000000:=by omega
  have h1:decide (((i + 1:Nat):Int) < (P.length:Int)) = true:=by rw [decide_eq_true_eq];omega
  obtain ⟨v1,v2⟩:=hinv i hI1;rw [<- hI] at v1 v2;refine ⟨?_,by omega,by rw [List.take_add_one,hx];simp [hI]⟩;unfold ZV qW;have e2:idx P ((i + 1:Nat):Int) = pure pq.2:=zF g2;have hq:=hrange pq.2 (List.mem_of_getElem? g2);simp only [zh (show i < 9223372036854775807 by omega),h1,cond_true,zF g1,e2,zA,JY a pq.1 (by omega),JY b pq.1 (by omega),zB];rw [hop];have hin:∀ (x y:Bool),(M.bind (cond x (M.pure true) (M.pure y)) fun in97=>M.bind (cond (decide (how = 1)) (M.bind (cond x (M.pure y) (M.pure false)) fun in101=>M.pure in101) (M.pure in97)) fun in99=>cond (decide (how = 2)) (M.bind (cond x (M.pure (!y)) (M.pure false)) fun in105=>M.pure in105) (M.pure in99)) = pure (if how = 2 then (x && !y) else if how = 1 then (x && y) else (x || y)):=by
   intro x y
   by_cases c2:how = 2
   ·subst c2;cases x <;> cases y <;> rfl
   ·by_cases c1:how = 1
    ·subst c1;cases x <;> cases y <;> rfl
    ·simp only [c1,c2,decide_false,cond_false,if_false]
     cases x <;> cases y <;> rfl
  have hin':=hin (yU a pq.1) (yU b pq.1)
  generalize (if how = 2 then (yU a pq.1 && !yU b pq.1) else if how = 1 then (yU a pq.1 && yU b pq.1) else (yU a pq.1 || yU b pq.1)) = inn at hin'
  -- the three steps are one
  have assoc:∀ (K:Bool -> M (List RN)),(M.bind (cond (yU a pq.1) (M.pure true) (M.pure (yU b pq.1))) fun in97=>M.bind (cond (decide (how = 1)) (M.bind (cond (yU a pq.1) (M.pure (yU b pq.1)) (M.pure false)) fun in101=>M.pure in101) (M.pure in97)) fun in99=>M.bind (cond (decide (how = 2)) (M.bind (cond (yU a pq.1) (M.pure (!yU b pq.1)) (M.pure false)) fun in105=>M.pure in105) (M.pure in99)) K) = K inn:=by
   intro K;have:=congrArg (fun m=>M.bind m K) hin';exact this
  rw [assoc]
  cases inn with
  | false=>rfl
  | true=>
   simp only [cond_true,if_true];rcases xK t with rfl | ⟨l,y,rfl⟩
   ·have e:decide ((0:Int) <= IntKind.i64.wrap (((([]:List RN).length:Nat):Int) - 1)) = false:=by
     rw [Xh (by simp) (by simp)];simp
    rw [e];simp only [cond_false,zA];rw [zE (by simp),wU64 (by omega) (by omega)]
    rfl
   ·have hy:=(ZB.1 v1).2.1;have hym:=zc.1 hy;have e0:IntKind.i64.wrap ((((l ++ [y]).length:Nat):Int) - 1) = (l.length:Int):=by
     simp only [List.length_append,List.length_singleton] at v2 ⊢;rw [Xh (by omega) (by omega)];omega
    have e1:idx (l ++ [y]) (l.length:Int) = pure y:=zF (by simp);have e3:decide ((0:Int) <= (l.length:Int)) = true:=by simp
    rw [e0,e3];simp only [cond_true,e1,zA,wU64 (show 0 <= y.hi + 1 by omega) (by omega),wU64 (show 0 <= pq.2 - 1 by omega) (by omega)];rw [Wq]
    by_cases hc:y.hi + 1 = pq.1
    ·simp only [hc,decide_true,cond_true,if_true,Int.toNat_natCast];have:(l ++ [y]).set l.length (⟨y.lo,pq.2 - 1⟩:RN) = l ++ [⟨y.lo,pq.2 - 1⟩]:=by simp
     rw [this]
     rfl
    ·simp only [hc,decide_false,cond_false,if_false];rw [zE (by simp only [List.length_append,List.length_singleton] at v2 ⊢;omega)]
     rfl) (fun t _=>by
  unfold ZV;have e:decide (IntKind.i64.wrap (((yw P).length:Int) + 1) < (P.length:Int)) = false:=by
   rw [zsa,Xh (by omega) (by omega)];simp;omega
  simp only [e,cond_false,zA]) [] ⟨Nat.zero_le _,by simp⟩
 rw [show ((0:Int),([]:List RN)) = (((0:Nat):Int),[]) from rfl,this];simp only [zA]

theorem qY (a b:List RN) (h:a.length + b.length <= 10000000000):YV a b = pure (Zs (· || ·) a b):=by
 unfold YV;rw [Ws (· || ·) 0 (fun x y=>by simp) rfl a b h,zB,zA]
theorem rmeet_eq (a b:List RN) (h:a.length + b.length <= 10000000000):Xu a b = pure (Zs (· && ·) a b):=by
 unfold Xu;rw [Ws (· && ·) 1 (fun x y=>by simp) rfl a b h,zB,zA]
theorem zwa (a b:List RN) (h:a.length + b.length <= 10000000000):YW a b = pure (Zs (fun x y=>x && !y) a b):=by
 unfold YW;rw [Ws (fun x y=>x && !y) 2 (fun x y=>by simp) rfl a b h,zB,zA]

def ja (out:List RN) (x:RN):List RN:=match out.getLast? with
 | some y=>if x.lo <= y.hi + 1 then out.dropLast ++ [⟨y.lo,max y.hi x.hi⟩] else out ++ [x]
 | none=>out ++ [x]
theorem Ud (x:RN):ja [] x = [x]:=rfl
theorem Wt (l:List RN) (y x:RN):ja (l ++ [y]) x = if x.lo <= y.hi + 1 then l ++ [⟨y.lo,max y.hi x.hi⟩] else l ++ [y] ++ [x]:=by simp [ja]
theorem QS {out:List RN} {x:RN} (h:Nf out) (hx:uf x = true) (hlo:∀ y ∈ out,y.lo <= x.lo):Nf (ja out x) /\ (∀ n,yU (ja out x) n = (yU out n || inR n x)) /\ (∀ y ∈ ja out x,y.lo <= x.lo) /\ (ja out x).length <= out.length + 1:=by
 have hxm:=zc.1 hx;rcases xK out with rfl | ⟨l,y,rfl⟩
 ·rw [Ud];exact ⟨⟨hx,by simp,trivial⟩,fun n=>by rw [wx];simp,by simp,by simp⟩
 ·rw [Wt];obtain ⟨n1,n2,n3⟩:=ZB.1 h;have hym:=zc.1 n2;have hyx:=hlo y (by simp)
  by_cases hc:x.lo <= y.hi + 1
  ·rw [if_pos hc];have hm:uf (⟨y.lo,max y.hi x.hi⟩:RN) = true:=zc.2 ⟨hym.1,by simp only;omega,by simp only;omega⟩;refine ⟨ZB.2 ⟨n1,hm,n3⟩,fun n=>?_,fun z hz=>?_,by simp⟩
   ·rw [vi,vi,wx,wx,Bool.or_assoc]
    congr 1
    rw [Bool.eq_iff_iff,Bool.or_eq_true,wY,wY,wY];have:=zc.1 hm;simp only at this ⊢;omega
   ·rcases List.mem_append.1 hz with hz | hz
    ·exact hlo z (by simp [hz])
    ·simp at hz;subst hz;exact hyx
  ·rw [if_neg hc];refine ⟨ZB.2 ⟨h,hx,fun z hz=>?_⟩,fun n=>by rw [vi (l ++ [y]),wx],fun z hz=>?_,by simp⟩
   ·rcases List.mem_append.1 hz with hz | hz
    ·have:=n3 z hz;omega
    ·simp at hz;subst hz;omega
   ·rcases List.mem_append.1 hz with hz | hz
    ·exact hlo z hz
    ·simp at hz;subst hz;exact Int.le_refl _
theorem Wu : ∀ (s out:List RN),Nf out -> (∀ x ∈ s,uf x = true) -> s.Pairwise (fun x y=>x.lo <= y.lo) -> (∀ y ∈ out,∀ x ∈ s,y.lo <= x.lo) -> Nf (s.foldl ja out) /\ (∀ n,yU (s.foldl ja out) n = (yU out n || yU s n)) /\ (s.foldl ja out).length <= out.length + s.length
 | [],out,h,_,_,_=>⟨h,by simp,by simp⟩
 | x :: r,out,h,hm,hp,hlo=>by
  obtain ⟨a1,a2,a3,a4⟩:=QS h (hm x (by simp)) fun y hy=>hlo y hy x (by simp)
  obtain ⟨p1,p2⟩:=List.pairwise_cons.1 hp;obtain ⟨i1,i2,i3⟩:=Wu r _ a1 (fun y hy=>hm y (List.mem_cons_of_mem _ hy)) p2 fun y hy z hz=>by
   have:=a3 y hy;have:=p1 z hz;omega
  refine ⟨i1,fun n=>?_,by simp;omega⟩;rw [List.foldl_cons,i2,a2,ZA,Bool.or_assoc]

theorem zxa {l:List RN} {Q:List RN -> Prop} (h:∀ s,s.Perm l -> s.Pairwise (fun x y=>x.lo <= y.lo) -> Q s):(srt VN l).wp Q:=by
 refine ⟨⟨l.mergeSort (fun x y=>decide (x.lo <= y.lo)),List.mergeSort_perm _ _,?_⟩,fun s ⟨h1,h2⟩=>h s h1 (h2.imp fun {x y} h=>?_)⟩
 ·refine (List.pairwise_mergeSort (fun a b c h1 h2=>?_) (fun a b=>?_) l).imp fun {x y} h=>?_
  ·simp only [decide_eq_true_eq] at h1 h2 ⊢;omega
  ·simp only [Bool.or_eq_true,decide_eq_true_eq];omega
  ·simp only [decide_eq_true_eq] at h;unfold VN;simp only [decide_eq_false_iff_not];omega
 ·unfold VN at h;simp only [decide_eq_false_iff_not] at h;omega
theorem JZ (l:List RN) (h:l.length <= 1000000000000):xu l = pure (nrm l):=by
 unfold xu;have h1:=uX (body:=xr l) l (fun i (t:List RN)=>((i:Int),t)) (fun t x=>if uf x then t ++ [x] else t) (fun t=>pure t) (fun i t=>t.length <= i) (fun i x t hx hi hI=>by
  have h1:decide ((i:Int) < (l.length:Int)) = true:=by simpa using hi
  refine ⟨?_,by split <;> (try simp only [List.length_append,List.length_singleton]) <;> omega⟩;unfold xr;simp only [h1,cond_true,zF hx,zA,zh (show i < 9223372036854775807 by omega)];have e:(cond (decide (0 < x.lo)) (cond (decide (x.lo <= x.hi)) (M.pure (decide (x.hi <= 281474976710655))) (M.pure false)) (M.pure false):M Bool) = pure (uf x):=by
   rw [zX,zX];refine congrArg pure ?_;rw [Bool.eq_iff_iff,zc];simp only [Bool.and_eq_true,decide_eq_true_eq];omega
  rw [e,zA]
  cases hm:uf x with
  | false=>simp [zA]
  | true=>
   rw [cond_true,zE (by simp;omega)];simp [zA]) (fun t _=>by unfold xr;simp [zA]) [] (by simp)
 have hf:∀ (l t:List RN),l.foldl (fun t x=>if uf x then t ++ [x] else t) t = t ++ l.filter uf:=by
  intro l
  induction l with
  | nil=>simp
  | cons x r ih=>
   intro t;rw [List.foldl_cons,ih]
   cases hm:uf x <;> simp [hm]
 rw [hf,List.nil_append] at h1;have h1':loop (xr l) (0,[]) = pure (l.filter uf):=h1;have hfl:(l.filter uf).length <= l.length:=List.length_filter_le _ _;rw [h1',zA,zE (by omega)];refine uL (zxa fun s hs hp=>?_);have hsl:=hs.length_eq;have hmay:∀ x ∈ s,uf x = true:=fun x hx=>(List.mem_filter.1 (hs.mem_iff.1 hx)).2
 have hpre:∀ i,Nf ((s.take i).foldl ja []) /\ ((s.take i).foldl ja []).length <= i /\ ∀ x,s[i]? = some x -> ∀ y ∈ (s.take i).foldl ja [],y.lo <= x.lo:=fun i=>by
  obtain ⟨i1,i2,i3⟩:=Wu (s.take i) [] trivial (fun x hx=>hmay x (List.mem_of_mem_take hx)) (List.Pairwise.sublist (List.take_sublist _ _) hp) (by simp);refine ⟨i1,by simp at i3;omega,fun x hx y hy=>?_⟩;have hmy:=zc.1 (i1.may y hy);have:yU ((s.take i).foldl ja []) y.lo = true:=xE.2 ⟨y,hy,i1.may y hy,by omega,by omega⟩;rw [i2] at this;simp only [qQ,Bool.false_or] at this;obtain ⟨z,hz,_,h3,_⟩:=xE.1 this
  -- z is ahead of x; y begins where one of those ahead begins
  have hall:∀ (s out:List RN),(∀ y ∈ s.foldl ja out,(∃ z ∈ out,y.lo = z.lo) \/ ∃ z ∈ s,y.lo = z.lo):=by
   intro s
   induction s with
   | nil=>intro out y hy;exact .inl ⟨y,hy,rfl⟩
   | cons a r ih=>
    intro out y hy;rcases ih _ y hy with ⟨z,hz,e⟩ | ⟨z,hz,e⟩
    ·rcases xK out with rfl | ⟨q,w,rfl⟩
     ·rw [Ud] at hz;simp at hz;subst hz;exact .inr ⟨z,by simp,e⟩
     ·rw [Wt] at hz
      split at hz
      ·rcases List.mem_append.1 hz with hz | hz
       ·exact .inl ⟨z,by simp [hz],e⟩
       ·simp at hz;subst hz;exact .inl ⟨w,by simp,e⟩
      ·rcases List.mem_append.1 hz with hz | hz
       ·exact .inl ⟨z,hz,e⟩
       ·simp at hz;subst hz;exact .inr ⟨z,by simp,e⟩
    ·exact .inr ⟨z,by simp [hz],e⟩
  rcases hall _ _ y hy with ⟨z,hz,_⟩ | ⟨z,hz,e⟩
  ·simp at hz
  ·obtain ⟨j,hj,hje⟩:=List.getElem_of_mem hz;have hlt:=(List.getElem?_eq_some_iff.1 hx).1;have hji:j < i:=by simp at hj;omega
   have:=List.pairwise_iff_getElem.1 hp j i (by omega) hlt hji;rw [List.getElem_take] at hje;have hxe:s[i] = x:=by rw [List.getElem?_eq_getElem hlt] at hx;simpa using hx
   rw [hje,hxe] at this;omega
 have h2:=uX (body:=xt (l.filter uf) s) s (fun i (t:List RN)=>((i:Int),t)) ja (fun t=>pure t) (fun i t=>t = (s.take i).foldl ja []) (fun i x t hx hi hI=>by
  obtain ⟨v1,v2,v3⟩:=hpre i;have v3:=v3 x hx;rw [<- hI] at v1 v2 v3;have hxm:=zc.1 (hmay x (List.mem_of_getElem? hx));have h1:decide ((i:Int) < ((l.filter uf).length:Int)) = true:=by simp;omega
  refine ⟨?_,by rw [List.take_add_one,hx];simp [hI]⟩;unfold xt;simp only [h1,cond_true,zF hx,zA,zh (show i < 9223372036854775807 by omega)];rcases xK t with rfl | ⟨q,y,rfl⟩
  ·have e:decide ((0:Int) <= IntKind.i64.wrap (((([]:List RN).length:Nat):Int) - 1)) = false:=by
    rw [Xh (by simp) (by simp)];simp
   rw [e];simp only [cond_false,zA];rw [zE (by simp),Ud]
   rfl
  ·have hy:=(ZB.1 v1).2.1;have hym:=zc.1 hy;have e0:IntKind.i64.wrap ((((q ++ [y]).length:Nat):Int) - 1) = (q.length:Int):=by
    simp only [List.length_append,List.length_singleton] at v2 ⊢;rw [Xh (by omega) (by omega)];omega
   have e1:idx (q ++ [y]) (q.length:Int) = pure y:=zF (by simp);have e3:decide ((0:Int) <= (q.length:Int)) = true:=by simp
   rw [e0,e3];simp only [cond_true,e1,zA,wU64 (show 0 <= y.hi + 1 by omega) (by omega)];rw [Wt]
   by_cases hc:x.lo <= y.hi + 1
   ·simp only [hc,decide_true,cond_true,if_true,Int.toNat_natCast];have:(q ++ [y]).set q.length (⟨y.lo,max y.hi x.hi⟩:RN) = q ++ [⟨y.lo,max y.hi x.hi⟩]:=by simp
    rw [this]
    rfl
   ·simp only [hc,decide_false,cond_false,if_false];rw [zE (by simp only [List.length_append,List.length_singleton] at v2 ⊢;omega)]
    rfl) (fun t _=>by
  unfold xt;have e:decide ((s.length:Int) < ((l.filter uf).length:Int)) = false:=by simp;omega
  simp only [e,cond_false,zA]) [] (by simp)
 show (M.bind (M.loop (xt (l.filter uf) s) (0,[])) fun out38=>M.pure out38).wp (· = nrm l);rw [show ((0:Int),([]:List RN)) = (((0:Nat):Int),[]) from rfl,h2];obtain ⟨i1,i2,_⟩:=Wu s [] trivial hmay hp (by simp);exact nrm_of i1 fun n=>by rw [i2,zra hs,JW];simp
def Zr (nums:List Int):List RN:=nums.map fun n=>⟨n,n⟩
def zya (x y:Int):Int:=if x < y then -1 else if y < x then 1 else 0
theorem zza (x y:Int):yQ x y = pure (zya x y):=by
 unfold yQ xA zya;simp only [decide_true,Bool.not_true,zB,zA,cond_false,yV]
 split
 ·rfl
 ·split <;> rfl
theorem z0a (x:RN) (n:Int):vK x n = pure (zya x.hi n):=by
 unfold vK;rw [zza,zB,zA]
def Ue : List RN -> Int -> Nat
 | [],_=>0
 | x :: r,n=>if x.hi < n then Ue r n + 1 else 0
theorem jb : ∀ {v:List RN} {n:Int} {c:Nat},c <= v.length -> (∀ (k:Nat) (x:RN),k < c -> v[k]? = some x -> x.hi < n) -> (∀ (k:Nat) (x:RN),c <= k -> v[k]? = some x -> n <= x.hi) -> c = Ue v n
 | [],n,c,h,_,_=>by simp at h;simp [Ue,h]
 | x :: r,n,0,_,_,h2=>by
  have:=h2 0 x (by omega) rfl;simp only [Ue];rw [if_neg (by omega)]
 | x :: r,n,c + 1,h,h1,h2=>by
  have:=h1 0 x (by omega) rfl;simp only [Ue];rw [if_pos this,<- jb (v:=r) (n:=n) (c:=c) (by simpa using h) (fun k y hk hy=>h1 (k + 1) y (by omega) (by simpa using hy)) (fun k y hk hy=>h2 (k + 1) y (by omega) (by simpa using hy))]
theorem z1a {v:List RN} (h:Nf v):∀ {i j:Nat} {x y:RN},i < j -> v[i]? = some x -> v[j]? = some y -> x.hi < y.hi:=by
 induction v with
 | nil=>intro i j x y _ hx;simp at hx
 | cons z r ih=>
  intro i j x y hij hx hy
  cases j with
  | zero=>omega
  | succ j=>
   have hyr:r[j]? = some y:=by simpa using hy
   have hym:=List.mem_of_getElem? hyr
   cases i with
   | zero=>
    simp at hx;subst hx;have:=h.2.1 y hym;have:=zc.1 (h.2.2.may y hym);omega
   | succ i=>exact ih h.2.2 (show i < j by omega) (by simpa using hx) hyr
theorem bs_loop (v:List RN) (n:Int) (hv:Nf v) (hl:v.length <= 1000000000000):loop (zL v n) (0,(v.length:Int)) = pure (Ue v n:Int):=by
 refine uL (loop_inv (fun s=>∃ i j:Nat,s = ((i:Int),(j:Int)) /\ i <= j /\ j <= v.length /\ (∀ (k:Nat) (x:RN),k < i -> v[k]? = some x -> x.hi < n) /\ (∀ (k:Nat) (x:RN),j <= k -> v[k]? = some x -> n <= x.hi)) (fun s=>(s.2 - s.1).toNat) ?_ _ ⟨0,v.length,rfl,Nat.zero_le _,Nat.le_refl _,fun k x hk=>absurd hk (Nat.not_lt_zero _),fun k x hk hx=>absurd (List.getElem?_eq_some_iff.1 hx).1 (Nat.not_lt.2 hk)⟩);rintro _ ⟨i,j,rfl,hij,hj,h1,h2⟩;unfold zL;simp only [yV]
 by_cases hc:(i:Int) < j
 ·rw [if_pos hc];have e:IntKind.i64.wrap (Int.fdiv (IntKind.u64.wrap (IntKind.i64.wrap ((i:Int) + j))) (2 ^ 1)) = (((i + j) / 2:Nat):Int):=by
   rw [Xh (n:=(i:Int) + j) (by omega) (by omega),wU64 (by omega) (by omega),Int.fdiv_eq_ediv_of_nonneg _ (by decide)];have:((i:Int) + j) / 2 ^ 1 = (((i + j) / 2:Nat):Int):=by omega
   rw [this,Xh (by omega) (by omega)]
  have hm:(i + j) / 2 < v.length:=by omega
  rw [e];simp only [zF (List.getElem?_eq_getElem hm),zA,z0a,zB,zh (show (i + j) / 2 < 9223372036854775807 by omega)]
  by_cases hlt:v[(i + j) / 2].hi < n
  ·have:zya v[(i + j) / 2].hi n < 0:=by unfold zya;rw [if_pos hlt];decide
   rw [if_pos this];refine ⟨⟨(i + j) / 2 + 1,j,rfl,by omega,hj,fun k x hk hx=>?_,h2⟩,?_⟩
   ·by_cases e:k = (i + j) / 2
    ·subst e;rw [List.getElem?_eq_getElem hm] at hx;cases hx;exact hlt
    ·have:=z1a hv (show k < (i + j) / 2 by omega) hx (List.getElem?_eq_getElem hm);omega
   ·simp only;omega
  ·have:¬ zya v[(i + j) / 2].hi n < 0:=by unfold zya;rw [if_neg hlt];split <;> decide
   rw [if_neg this];refine ⟨⟨i,(i + j) / 2,rfl,by omega,by omega,h1,fun k x hk hx=>?_⟩,?_⟩
   ·by_cases e:k = (i + j) / 2
    ·subst e;rw [List.getElem?_eq_getElem hm] at hx;cases hx;omega
    ·have:=z1a hv (show (i + j) / 2 < k by omega) (List.getElem?_eq_getElem hm) hx;omega
   ·simp only;omega
 ·rw [if_neg hc];have hij':i = j:=by omega
  subst hij';show (i:Int) = (Ue v n:Int)
  rw [<- jb hj h1 h2]
def hitB (v:List RN) (n:Int):Bool:=match v[Ue v n]? with | some x=>decide (zya x.hi n = 0) | none=>false
theorem bs_eq (v:List RN) (n:Int) (hv:Nf v) (hl:v.length <= 1000000000000):zI v n = pure ((Ue v n:Int),hitB v n):=by
 unfold zI hitB;rw [bs_loop v n hv hl,zA]
 by_cases hc:Ue v n < v.length
 ·have:decide ((Ue v n:Int) < (v.length:Int)) = true:=by simpa using hc
  rw [this,cond_true,zF (List.getElem?_eq_getElem hc)];simp only [zA,z0a,zB,List.getElem?_eq_getElem hc]
 ·have:decide ((Ue v n:Int) < (v.length:Int)) = false:=by simpa using hc
  rw [this,cond_false,zA,List.getElem?_eq_none (by omega)]
theorem qZ : ∀ {v:List RN} (n:Int),Nf v -> yU v n = (match v[Ue v n]? with | some x=>decide (x.lo <= n) | none=>false)
 | [],n,_=>rfl
 | x :: r,n,h=>by
  by_cases hc:x.hi < n
  ·simp only [Ue,if_pos hc,List.getElem?_cons_succ];rw [<- qZ n h.2.2,ZA];have:inR n x = false:=by
    rw [Bool.eq_false_iff];intro h;have:=(wY.1 h).2.2;omega
   rw [this,Bool.false_or]
  ·simp only [Ue,if_neg hc,List.getElem?_cons_zero];rw [Bool.eq_iff_iff,decide_eq_true_eq]
   constructor
   ·exact UZ h
   ·intro hle;exact (JX h hle).2 (.inl (by omega))
theorem has_eq (l:List RN) (n:Int) (h:l.length <= 100000000000):Xp l n = pure (yU l n):=by
 unfold Xp;have hl:=YI l;rw [JZ l (by omega),zB,zA,bs_eq _ n (Wr l) (by omega),zB,zA,<- vY l n,qZ n (Wr l)]
 generalize nrm l = v
 by_cases hc:Ue v n < v.length
 ·have:decide ((Ue v n:Int) < (v.length:Int)) = true:=by simpa using hc
  simp only [this,cond_true,zF (List.getElem?_eq_getElem hc),zA,List.getElem?_eq_getElem hc]
 ·have:decide ((Ue v n:Int) < (v.length:Int)) = false:=by simpa using hc
  simp only [this,cond_false,zA,List.getElem?_eq_none (show v.length <= Ue v n by omega)]

theorem Yt (l:List Int):(Zr l).length = l.length:=by simp [Zr]
end Go.Ep.M.R

