/- Side texts. -/
import Derived.Test.YtbgghlomkcnikaaGreatDoorMMw2
import Derived.Test.YtbgghlomkcnikaaGreatDoorMMw3
import Derived.Test.YtbgghlomkcnikaaGreatDoorMMw4
import Derived.Test.YtbgghlomkcnikaaGreatDoorMMw5
import Derived.Test.YtbgghlomkcnikaaGreatDoorMMw6
import Derived.Test.YtbgghlomkcnikaaGreatDoorMMw7
import Derived.Test.YtbgghlomkcnikaaGreatDoorMMw8
set_option linter.unusedVariables false
set_option linter.unusedSimpArgs false
namespace Go.Proofs
open Go.Ep Tryz
set_option maxHeartbeats 1000000
set_option maxRecDepth 100000
set_option linter.unusedVariables false
set_option linter.unusedSimpArgs false


theorem Qz (m1:TMsg) (r0:Bool) (h:(wW m1).wp (· = r0)):PFun prog 19 [.agg (List.map .d (TMsg.e m1))] (.d (.v (.bool r0))):=by
 refine fI (sl:=[(0,_)]) func19 rfl ntmps19 rfl rfl ?_;intro ctx hK;refine wQ<|wR<|ws (LR.box rfl rfl rfl rfl)<|wa ?_;refine wN<|wQ ?_;refine wJ (zE h) (fun (hello2:Bool) (_:Unit)=>⟨216,[(1,.ref 1 0),(3,.d (.v (.bool hello2)))],[(1,.cells 30 [.d (.v (.int .u8 m1.kind)),.d (.v (.int .u8 m1.slot)),.d (.v (.int .u64 m1.try_)),.d (.v (.int .u16 m1.dev)),.d (.v (.int .u64 m1.epoch)),.d (.v (.int .u8 m1.why)),.d (.sl (List.map PT.e m1.have_)),.d (.sl (List.map PT.e m1.front)),.d (.sl (List.map PT.e m1.delta.from_)),.d (.sl (List.map PT.e m1.delta.to_)),.d (.sl (List.map EV.e m1.delta.events))])]⟩) (fun h=>?_) ?_
 ·refine wR<|ws (fR underlying30 rfl sizeOf5 (by decide) rfl rfl)<|ws (lD isAgg5 rfl rfl rfl)<|ws (eQ rfl rfl)<|wm ?_;refine xG (d:=8) h rfl (fun _ h=>?_) (fun _ h=>?_)
  ·refine wf<|wf<|wf<|ws (pT rfl rfl)<|wa ?_;refine wN ?_;exact ⟨true,(),h,sP⟩
  ·refine wt (fR underlying30 rfl sizeOf5 (by decide) rfl rfl)<|wt (lD isAgg5 rfl rfl rfl)<|wt (eQ rfl rfl)<|ws (pF rfl rfl)<|wa ?_;refine wN ?_;exact ⟨(decide (m1.kind = 2)),(),h,sP⟩
 ·rintro hello2 _ h;refine wQ<|wQ ?_;refine wJ (zE h) (fun (v4:Bool) (_:Unit)=>⟨216,[(1,.ref 1 0),(48,.d (.v (.bool v4)))],[(1,.cells 30 [.d (.v (.int .u8 m1.kind)),.d (.v (.int .u8 m1.slot)),.d (.v (.int .u64 m1.try_)),.d (.v (.int .u16 m1.dev)),.d (.v (.int .u64 m1.epoch)),.d (.v (.int .u8 m1.why)),.d (.sl (List.map PT.e m1.have_)),.d (.sl (List.map PT.e m1.front)),.d (.sl (List.map PT.e m1.delta.from_)),.d (.sl (List.map PT.e m1.delta.to_)),.d (.sl (List.map EV.e m1.delta.events))])]⟩) (fun h=>?_) ?_
  ·refine wR<|ws (fR underlying30 rfl sizeOf5 (by decide) rfl rfl)<|ws (lD isAgg5 rfl rfl rfl)<|ws (LR.lss rfl rfl)<|wm ?_;refine xG (d:=16) h rfl (fun _ h=>?_) (fun _ h=>?_)
   ·refine wf<|wf<|wf<|ws (pT rfl rfl)<|wm ?_;refine wf<|wf<|wu<|wu<|wu<|wu<|wu<|wu<|wu ?_;refine wy (tl:=[(1,_),(3,_),(21,_),(23,_),(27,_),(30,_)]) (to:=[(1,_)]) ?_;refine wu<|wu<|wf<|ws (pT rfl rfl)<|wm ?_;refine wf<|wf<|wf<|wu<|wu<|wu<|wu<|wu<|wu ?_;refine wu<|wy (tl:=[(1,_),(35,_),(38,_),(42,_),(45,_)]) (to:=[(1,_)]) ?_;refine wu<|wf<|ws (pT rfl rfl)<|wN ?_;exact ⟨true,(),h,sP⟩
   ·refine wt (fR underlying30 rfl sizeOf5 (by decide) rfl rfl)<|wt (lD isAgg5 rfl rfl rfl)<|wt (LR.gtr rfl rfl)<|ws (pF rfl rfl)<|wm ?_;refine xG (d:=21) h rfl (fun _ h=>?_) (fun _ h=>?_)
    ·refine wf<|wf<|wu<|wu<|wu<|wu<|wu<|wu<|wy (tl:=[(1,_),(3,_),(21,_),(23,_),(27,_),(29,_)]) (to:=[(1,_)]) ?_;refine wu<|wu<|wu<|wf<|ws (pT rfl rfl)<|wm ?_;refine wf<|wf<|wf<|wu<|wu<|wu<|wu<|wu<|wu ?_;refine wy (tl:=[(1,_),(35,_),(38,_),(42,_),(44,_)]) (to:=[(1,_)]) ?_;refine wu<|wu<|wf<|ws (pT rfl rfl)<|wN ?_;exact ⟨true,(),h,sP⟩
    ·refine wt (mV rfl)<|wt (mV rfl) ?_;refine xG (d:=23) h rfl (fun _ h=>?_) (fun _ h=>?_)
     ·refine wt (fR underlying30 rfl sizeOf5 (by decide) rfl rfl)<|wt (lD isAgg5 rfl rfl rfl)<|wt (LR.geq rfl rfl)<|wt (mV rfl) ?_;refine xG (d:=27) h rfl (fun _ h=>?_) (fun _ h=>?_)
      ·refine wy (tl:=[(1,_),(3,_),(21,_),(23,_),(27,_)]) (to:=[(1,_)]) ?_;refine wf<|wf<|wf<|wf<|wt (pT rfl rfl)<|wt (pT rfl rfl)<|ws (pF rfl rfl)<|wm ?_;refine wf<|wf<|wf<|wu<|wu<|wu<|wu<|wu<|wy (tl:=[(1,_),(35,_),(38,_),(42,_),(43,_)]) (to:=[(1,_)]) ?_;refine wu<|wu<|wu<|wf<|ws (pT rfl rfl)<|wN ?_;exact ⟨true,(),h,sP⟩
      ·refine wy (tl:=[(1,_),(3,_),(21,_),(23,_),(27,_)]) (to:=[(1,_)]) ?_;refine wt (fR underlying30 rfl sizeOf22 (by decide) rfl rfl)<|wt (lD isAgg22 rfl rfl rfl) ?_;obtain ⟨v9,hy10,h⟩:=zI h;refine wt (cN (ZU m1.try_ v9 hy10) rfl call36 rfl rfl rfl rfl)<|wt (LR.not rfl)<|wt (pF rfl rfl)<|wt (pT rfl rfl)<|ws (pF rfl rfl)<|wm ?_;refine xG (d:=35) h rfl (fun _ h=>?_) (fun _ h=>?_)
       ·refine wf<|wf<|wf<|wu<|wu<|wu<|wu<|wy (tl:=[(1,_),(35,_),(38,_),(42,_)]) (to:=[(1,_)]) ?_;refine wu<|wu<|wu<|wu<|wf<|ws (pT rfl rfl)<|wN ?_;exact ⟨true,(),h,sP⟩
       ·refine wt (mV rfl)<|wt (LR.not rfl)<|wt (mV rfl) ?_;refine xG (d:=38) h rfl (fun _ h=>?_) (fun _ h=>?_)
        ·refine wt (fR underlying30 rfl sizeOf5 (by decide) rfl rfl)<|wt (lD isAgg5 rfl rfl rfl)<|wt (nQ rfl rfl)<|wy (tl:=[(1,_),(35,_),(38,_),(41,_)]) (to:=[(1,_)]) ?_;refine wt (mV rfl) ?_;refine xG (d:=42) h rfl (fun _ h=>?_) (fun _ h=>?_)
         ·refine wf<|wf<|wf<|wt (pT rfl rfl)<|wt (pT rfl rfl)<|ws (pF rfl rfl)<|wN ?_;exact ⟨true,(),h,sP⟩
         ·refine wt (fR underlying30 rfl sizeOf22 (by decide) rfl rfl)<|wt (lD isAgg22 rfl rfl rfl)<|wt (nQ rfl rfl)<|wt (pF rfl rfl)<|wt (pT rfl rfl)<|ws (pF rfl rfl)<|wN ?_;exact ⟨(!decide (m1.try_ = 0)),(),h,sP⟩
        ·refine wf<|wf<|wf<|wy (tl:=[(1,_),(35,_),(38,_),(41,_)]) (to:=[(1,_)]) ?_;refine wf<|wu<|wu<|wu<|wf<|wt (pF rfl rfl)<|ws (pF rfl rfl)<|wN ?_;exact ⟨false,(),h,sP⟩
     ·refine wf<|wf<|wf<|wf<|wu<|wy (tl:=[(1,_),(3,_),(21,_),(23,_),(27,_),(28,_)]) (to:=[(1,_)]) ?_;refine wu<|wu<|wu<|wf<|wt (pF rfl rfl)<|ws (pF rfl rfl)<|wm ?_;refine wt (mV rfl)<|wt (LR.not rfl)<|wt (mV rfl) ?_;refine xG (d:=38) h rfl (fun _ h=>?_) (fun _ h=>?_)
      ·refine wt (fR underlying30 rfl sizeOf5 (by decide) rfl rfl)<|wt (lD isAgg5 rfl rfl rfl)<|wt (nQ rfl rfl)<|wt (mV rfl)<|wy (tl:=[(1,_),(35,_),(38,_),(42,_)]) (to:=[(1,_)]) ?_;refine xG (d:=42) h rfl (fun _ h=>?_) (fun _ h=>?_)
       ·refine wf<|wf<|wf<|wt (pT rfl rfl)<|wt (pT rfl rfl)<|ws (pF rfl rfl)<|wN ?_;exact ⟨true,(),h,sP⟩
       ·refine wt (fR underlying30 rfl sizeOf22 (by decide) rfl rfl)<|wt (lD isAgg22 rfl rfl rfl)<|wt (nQ rfl rfl)<|wt (pF rfl rfl)<|wt (pT rfl rfl)<|ws (pF rfl rfl)<|wN ?_;exact ⟨(!decide (m1.try_ = 0)),(),h,sP⟩
      ·refine wf<|wf<|wf<|wf<|wy (tl:=[(1,_),(35,_),(38,_),(42,_)]) (to:=[(1,_)]) ?_;refine wu<|wu<|wu<|wf<|wt (pF rfl rfl)<|ws (pF rfl rfl)<|wN ?_;exact ⟨false,(),h,sP⟩
  ·rintro v4 _ h;refine xD h rfl (fun _ h=>?_) (fun _ h=>?_)
   ·refine wQ<|wR<|wa ?_;refine wN<|wX ?_;cases h;exact xT
   ·refine wK<|wQ<|wQ ?_;refine wJ (zE h) (fun (v17:Bool) (_:Unit)=>⟨216,[(1,.ref 1 0),(77,.d (.v (.bool v17)))],[(1,.cells 30 [.d (.v (.int .u8 m1.kind)),.d (.v (.int .u8 m1.slot)),.d (.v (.int .u64 m1.try_)),.d (.v (.int .u16 m1.dev)),.d (.v (.int .u64 m1.epoch)),.d (.v (.int .u8 m1.why)),.d (.sl (List.map PT.e m1.have_)),.d (.sl (List.map PT.e m1.front)),.d (.sl (List.map PT.e m1.delta.from_)),.d (.sl (List.map PT.e m1.delta.to_)),.d (.sl (List.map EV.e m1.delta.events))])]⟩) (fun h=>?_) ?_
    ·refine wR<|ws (fR underlying30 rfl sizeOf5 (by decide) rfl rfl)<|ws (lD isAgg5 rfl rfl rfl)<|ws (eQ rfl rfl)<|wm ?_;refine xG (d:=52) h rfl (fun _ h=>?_) (fun _ h=>?_)
     ·refine wt (fR underlying30 rfl sizeOf23 (by decide) rfl rfl)<|wt (lD isAgg23 rfl rfl rfl)<|wt (nQ rfl rfl)<|wt (mV rfl) ?_;refine xG (d:=56) h rfl (fun _ h=>?_) (fun _ h=>?_)
      ·refine wf<|wf<|wf<|wt (pT rfl rfl)<|ws (pT rfl rfl)<|wm ?_;refine wf<|wf<|wf<|wy (tl:=[(1,_),(62,_),(65,_)]) (to:=[(1,_)]) ?_;refine wf<|wu<|wu<|wu<|wu<|wu<|wu<|wu<|wu ?_;refine wu<|wf<|ws (pT rfl rfl)<|wN ?_;exact ⟨true,(),h,sP⟩
      ·refine wt (fR underlying30 rfl sizeOf22 (by decide) rfl rfl)<|wt (lD isAgg22 rfl rfl rfl)<|wt (nQ rfl rfl)<|wt (pF rfl rfl)<|ws (pT rfl rfl)<|wm ?_;refine xG (d:=62) h rfl (fun _ h=>?_) (fun _ h=>?_)
       ·refine wf<|wf<|wy (tl:=[(1,_),(62,_),(64,_)]) (to:=[(1,_)]) ?_;refine wf<|wf<|wu<|wu<|wu<|wu<|wu<|wu<|wu ?_;refine wu<|wu<|wf<|ws (pT rfl rfl)<|wN ?_;exact ⟨true,(),h,sP⟩
       ·refine wt (fR underlying30 rfl sizeOf5 (by decide) rfl rfl)<|wt (lD isAgg5 rfl rfl rfl)<|wy (tl:=[(1,_),(62,_),(64,_)]) (to:=[(1,_)]) ?_;refine wt (nQ rfl rfl)<|wt (mV rfl) ?_;refine xG (d:=66) h rfl (fun _ h=>?_) (fun _ h=>?_)
        ·refine wt (fR underlying30 rfl sizeOf23 (by decide) rfl rfl)<|wt (lD isAgg23 rfl rfl rfl)<|wt (eQ rfl rfl)<|wt (mV rfl) ?_;refine xG (d:=70) h rfl (fun _ h=>?_) (fun _ h=>?_)
         ·refine wf<|wf<|wf<|wf<|wt (pT rfl rfl)<|wt (pT rfl rfl)<|ws (pF rfl rfl)<|wN ?_;exact ⟨true,(),h,sP⟩
         ·refine wt (fR underlying30 rfl sizeOf22 (by decide) rfl rfl)<|wt (lD isAgg22 rfl rfl rfl) ?_;obtain ⟨v23,hy24,h⟩:=zI h;refine wt (cN (ZU m1.epoch v23 hy24) rfl call36 rfl rfl rfl rfl)<|wt (LR.not rfl)<|wt (pF rfl rfl)<|wt (pT rfl rfl)<|ws (pF rfl rfl)<|wN ?_;exact ⟨(!v23),(),h,sP⟩
        ·refine wf<|wf<|wf<|wf<|wu<|wu<|wu<|wu<|wf ?_;refine wt (pF rfl rfl)<|ws (pF rfl rfl)<|wN ?_;exact ⟨false,(),h,sP⟩
     ·refine wf<|wf<|wf<|wf<|wu<|wu<|wu<|wf<|ws (pF rfl rfl) ?_;refine wm ?_;refine wt (fR underlying30 rfl sizeOf5 (by decide) rfl rfl)<|wt (lD isAgg5 rfl rfl rfl)<|wt (nQ rfl rfl)<|wt (mV rfl)<|wy (tl:=[(1,_),(62,_),(66,_)]) (to:=[(1,_)]) ?_;refine xG (d:=66) h rfl (fun _ h=>?_) (fun _ h=>?_)
      ·refine wt (fR underlying30 rfl sizeOf23 (by decide) rfl rfl)<|wt (lD isAgg23 rfl rfl rfl)<|wt (eQ rfl rfl)<|wt (mV rfl) ?_;refine xG (d:=70) h rfl (fun _ h=>?_) (fun _ h=>?_)
       ·refine wf<|wf<|wf<|wf<|wt (pT rfl rfl)<|wt (pT rfl rfl)<|ws (pF rfl rfl)<|wN ?_;exact ⟨true,(),h,sP⟩
       ·refine wt (fR underlying30 rfl sizeOf22 (by decide) rfl rfl)<|wt (lD isAgg22 rfl rfl rfl) ?_;obtain ⟨v27,hy28,h⟩:=zI h;refine wt (cN (ZU m1.epoch v27 hy28) rfl call36 rfl rfl rfl rfl)<|wt (LR.not rfl)<|wt (pF rfl rfl)<|wt (pT rfl rfl)<|ws (pF rfl rfl)<|wN ?_;exact ⟨(!v27),(),h,sP⟩
      ·refine wf<|wf<|wf<|wf<|wu<|wu<|wu<|wu<|wf ?_;refine wt (pF rfl rfl)<|ws (pF rfl rfl)<|wN ?_;exact ⟨false,(),h,sP⟩
    ·rintro v17 _ h;refine xD h rfl (fun _ h=>?_) (fun _ h=>?_)
     ·refine wQ<|wR<|wa ?_;refine wN<|wX ?_;cases h;exact xT
     ·refine wK<|wQ<|wQ ?_;refine wJ (zE h) (fun (v30:Bool) (_:Unit)=>⟨216,[(1,.ref 1 0),(100,.d (.v (.bool v30)))],[(1,.cells 30 [.d (.v (.int .u8 m1.kind)),.d (.v (.int .u8 m1.slot)),.d (.v (.int .u64 m1.try_)),.d (.v (.int .u16 m1.dev)),.d (.v (.int .u64 m1.epoch)),.d (.v (.int .u8 m1.why)),.d (.sl (List.map PT.e m1.have_)),.d (.sl (List.map PT.e m1.front)),.d (.sl (List.map PT.e m1.delta.from_)),.d (.sl (List.map PT.e m1.delta.to_)),.d (.sl (List.map EV.e m1.delta.events))])]⟩) (fun h=>?_) ?_
      ·refine wR<|ws (fR underlying30 rfl sizeOf5 (by decide) rfl rfl)<|ws (lD isAgg5 rfl rfl rfl)<|ws (eQ rfl rfl)<|wm ?_;refine xG (d:=81) h rfl (fun _ h=>?_) (fun _ h=>?_)
       ·refine wt (fR underlying30 rfl sizeOf5 (by decide) rfl rfl)<|wt (lD isAgg5 rfl rfl rfl)<|wt (nQ rfl rfl)<|ws (pT rfl rfl)<|wm ?_;refine xG (d:=86) h rfl (fun _ h=>?_) (fun _ h=>?_)
        ·refine wt (fR underlying30 rfl sizeOf5 (by decide) rfl rfl)<|wt (lD isAgg5 rfl rfl rfl)<|wt (nQ rfl rfl)<|ws (pT rfl rfl)<|wm ?_;refine xG (d:=91) h rfl (fun _ h=>?_) (fun _ h=>?_)
         ·refine wf<|wf<|wy (tl:=[(1,_),(91,_),(93,_)]) (to:=[(1,_)]) ?_;refine wf<|wf<|wu<|wu<|wu<|wf<|ws (pT rfl rfl)<|wN ?_;exact ⟨true,(),h,sP⟩
         ·refine wt (fR underlying30 rfl sizeOf5 (by decide) rfl rfl)<|wt (lD isAgg5 rfl rfl rfl)<|wy (tl:=[(1,_),(91,_),(93,_)]) (to:=[(1,_)]) ?_;refine wt (nQ rfl rfl)<|wt (mV rfl) ?_;refine xG (d:=95) h rfl (fun _ h=>?_) (fun _ h=>?_)
          ·refine wt (fR underlying30 rfl sizeOf5 (by decide) rfl rfl)<|wt (lD isAgg5 rfl rfl rfl)<|wt (nQ rfl rfl)<|wt (pT rfl rfl)<|ws (pF rfl rfl)<|wN ?_;exact ⟨(!decide (m1.why = 0)),(),h,sP⟩
          ·refine wf<|wf<|wf<|wt (pF rfl rfl)<|ws (pF rfl rfl)<|wN ?_;exact ⟨false,(),h,sP⟩
        ·refine wf<|wf<|wf<|ws (pF rfl rfl)<|wm ?_;refine wt (fR underlying30 rfl sizeOf5 (by decide) rfl rfl)<|wt (lD isAgg5 rfl rfl rfl)<|wt (nQ rfl rfl)<|wy (tl:=[(1,_),(91,_),(94,_)]) (to:=[(1,_)]) ?_;refine wt (mV rfl) ?_;refine xG (d:=95) h rfl (fun _ h=>?_) (fun _ h=>?_)
         ·refine wt (fR underlying30 rfl sizeOf5 (by decide) rfl rfl)<|wt (lD isAgg5 rfl rfl rfl)<|wt (nQ rfl rfl)<|wt (pT rfl rfl)<|ws (pF rfl rfl)<|wN ?_;exact ⟨(!decide (m1.why = 0)),(),h,sP⟩
         ·refine wf<|wf<|wf<|wt (pF rfl rfl)<|ws (pF rfl rfl)<|wN ?_;exact ⟨false,(),h,sP⟩
       ·refine wf<|wf<|wf<|ws (pF rfl rfl)<|wm ?_;refine wf<|wf<|wf<|ws (pF rfl rfl)<|wm ?_;refine wt (fR underlying30 rfl sizeOf5 (by decide) rfl rfl)<|wt (lD isAgg5 rfl rfl rfl)<|wt (nQ rfl rfl)<|wt (mV rfl)<|wy (tl:=[(1,_),(91,_),(95,_)]) (to:=[(1,_)]) ?_;refine xG (d:=95) h rfl (fun _ h=>?_) (fun _ h=>?_)
        ·refine wt (fR underlying30 rfl sizeOf5 (by decide) rfl rfl)<|wt (lD isAgg5 rfl rfl rfl)<|wt (nQ rfl rfl)<|wt (pT rfl rfl)<|ws (pF rfl rfl)<|wN ?_;exact ⟨(!decide (m1.why = 0)),(),h,sP⟩
        ·refine wf<|wf<|wf<|wt (pF rfl rfl)<|ws (pF rfl rfl)<|wN ?_;exact ⟨false,(),h,sP⟩
      ·rintro v30 _ h;refine xD h rfl (fun _ h=>?_) (fun _ h=>?_)
       ·refine wQ<|wR<|wa ?_;refine wN<|wX ?_;cases h;exact xT
       ·refine wK<|wQ ?_;refine wJ (zE h) (fun (has38:Bool) (_:Unit)=>⟨216,[(1,.ref 1 0),(4,.d (.v (.bool has38)))],[(1,.cells 30 [.d (.v (.int .u8 m1.kind)),.d (.v (.int .u8 m1.slot)),.d (.v (.int .u64 m1.try_)),.d (.v (.int .u16 m1.dev)),.d (.v (.int .u64 m1.epoch)),.d (.v (.int .u8 m1.why)),.d (.sl (List.map PT.e m1.have_)),.d (.sl (List.map PT.e m1.front)),.d (.sl (List.map PT.e m1.delta.from_)),.d (.sl (List.map PT.e m1.delta.to_)),.d (.sl (List.map EV.e m1.delta.events))])]⟩) (fun h=>?_) ?_
        ·refine wR<|ws (fR underlying30 rfl sizeOf5 (by decide) rfl rfl)<|ws (lD isAgg5 rfl rfl rfl)<|ws (eQ rfl rfl)<|wm ?_;refine xG (d:=104) h rfl (fun _ h=>?_) (fun _ h=>?_)
         ·refine wf<|wf<|wf<|wf<|wu<|wu<|wu<|wf<|ws (pT rfl rfl) ?_;refine wa ?_;refine wN ?_;exact ⟨true,(),h,sP⟩
         ·refine wt (fR underlying30 rfl sizeOf5 (by decide) rfl rfl)<|wt (lD isAgg5 rfl rfl rfl)<|wt (LR.geq rfl rfl)<|wt (mV rfl) ?_;refine xG (d:=108) h rfl (fun _ h=>?_) (fun _ h=>?_)
          ·refine wt (fR underlying30 rfl sizeOf5 (by decide) rfl rfl)<|wt (lD isAgg5 rfl rfl rfl)<|wt (LR.leq rfl rfl)<|wt (pT rfl rfl)<|ws (pF rfl rfl)<|wa ?_;refine wN ?_;exact ⟨(decide (m1.kind <= 7)),(),h,sP⟩
          ·refine wf<|wf<|wf<|wt (pF rfl rfl)<|ws (pF rfl rfl)<|wa ?_;refine wN ?_;exact ⟨false,(),h,sP⟩
        ·rintro has38 _ h;refine wQ<|wQ ?_;refine wJ (zE h) (fun (v41:Bool) (_:Unit)=>⟨216,[(1,.ref 1 0),(148,.d (.v (.bool v41)))],[(1,.cells 30 [.d (.v (.int .u8 m1.kind)),.d (.v (.int .u8 m1.slot)),.d (.v (.int .u64 m1.try_)),.d (.v (.int .u16 m1.dev)),.d (.v (.int .u64 m1.epoch)),.d (.v (.int .u8 m1.why)),.d (.sl (List.map PT.e m1.have_)),.d (.sl (List.map PT.e m1.front)),.d (.sl (List.map PT.e m1.delta.from_)),.d (.sl (List.map PT.e m1.delta.to_)),.d (.sl (List.map EV.e m1.delta.events))])]⟩) (fun h=>?_) ?_
         ·refine wD (by kernel_rfl) (by kernel_rfl)<|qm ?_;refine qs (fun _ U W=>LR.not U)<|qm ?_;refine xQ (d:=116) h rfl (fun _ h=>?_) (fun _ h=>?_)
          ·refine qt (fun _ U W=>fR underlying30 rfl sizeOf25 (by decide) rfl U) ?_;refine qt (fun _ U W=>lD isAgg25 U (W rfl) rfl) ?_;refine qt (fun _ U W=>lM (enc:=PT.e) (L:=m1.have_) underlying25 U) ?_;refine qt (fun _ U W=>nQ U U) ?_;refine qs (fun _ U W=>pT U U)<|qm ?_;refine xQ (d:=122) h rfl (fun _ h=>?_) (fun _ h=>?_)
           ·refine kF<|kF<|kF<|kF ?_;refine qs (fun _ U W=>pT U U)<|qm ?_;refine kF<|kF<|kF<|kF<|kU<|kU<|kU<|kF<|kF ?_;refine kU<|kU<|kU<|kU<|kU<|kU<|kU<|kU<|kU ?_;refine kK (tl:=[(1,_),(128,_),(137,_),(146,_)]) ?_;refine kF ?_;refine qs (fun _ U W=>pT U U)<|qN ?_;exact ⟨true,(),h,sP⟩
           ·refine qt (fun _ U W=>fR underlying30 rfl sizeOf25 (by decide) rfl U) ?_;refine qt (fun _ U W=>lD isAgg25 U (W rfl) rfl) ?_;obtain ⟨v44,hy45,h⟩:=zI h;refine qt (fun _ U W=>cN (xz m1.have_ v44 hy45) U call37 (xt (fun a b=>U a b) rfl rfl) rfl rfl rfl) ?_;refine qt (fun _ U W=>LR.not U) ?_;refine qs (fun _ U W=>pF U U)<|qm ?_;refine xQ (d:=128) h rfl (fun _ h=>?_) (fun _ h=>?_)
            ·refine kF<|kF<|kF<|kF<|kU<|kU<|kU<|kF<|kF ?_;refine kU<|kU<|kU<|kU<|kU<|kU<|kU<|kU<|kK (tl:=[(1,_),(128,_),(137,_),(145,_)]) ?_;refine kU<|kF ?_;refine qs (fun _ U W=>pT U U)<|qN ?_;exact ⟨true,(),h,sP⟩
            ·refine qt (fun _ U W=>fR underlying30 rfl sizeOf5 (by decide) rfl U) ?_;refine qt (fun _ U W=>lD isAgg5 U (W rfl) rfl) ?_;refine qt (fun _ U W=>eQ U U) ?_;refine qt (fun _ U W=>mV U) ?_;refine xQ (d:=132) h rfl (fun _ h=>?_) (fun _ h=>?_)
             ·refine kF<|kF<|kF ?_;refine qt (fun _ U W=>pT U U) ?_;refine qt (fun _ U W=>mV U) ?_;refine qt (fun _ U W=>fR underlying30 rfl sizeOf25 (by decide) rfl U) ?_;refine qt (fun _ U W=>lD isAgg25 U (W rfl) rfl) ?_;refine qt (fun _ U W=>fR underlying30 rfl sizeOf25 (by decide) rfl U) ?_;refine qt (fun _ U W=>lD isAgg25 U (W rfl) rfl) ?_;refine qt (fun _ U W=>fR underlying30 rfl sizeOf23 (by decide) rfl U) ?_;refine qt (fun _ U W=>lD isAgg23 U (W rfl) rfl) ?_;obtain ⟨v48,hy49,h⟩:=zI h;refine qt (fun _ U W=>cN (ZY m1.have_ m1.dev v48 hy49) U call39 (xt (fun a b=>U a b) rfl rfl) rfl rfl rfl)<|kK (tl:=[(1,_),(128,_),(137,_),(139,_),(144,_)]) ?_;obtain ⟨v50,hy51,h⟩:=zI h;refine qt (fun _ U W=>cN (ZX m1.have_ v48 v50 hy51) U call38 (xt (fun a b=>U a b) rfl rfl) rfl rfl rfl) ?_;refine qt (fun _ U W=>LR.not U) ?_;refine qt (fun _ U W=>pT U U) ?_;refine qs (fun _ U W=>pF U U)<|qN ?_;exact ⟨(!v50),(),h,sP⟩
             ·refine qt (fun _ U W=>fR underlying30 rfl sizeOf5 (by decide) rfl U) ?_;refine qt (fun _ U W=>lD isAgg5 U (W rfl) rfl) ?_;refine qt (fun _ U W=>eQ U U) ?_;refine qt (fun _ U W=>pF U U) ?_;refine qt (fun _ U W=>mV U) ?_;refine xQ (d:=137) h rfl (fun _ h=>?_) (fun _ h=>?_)
              ·refine qt (fun _ U W=>fR underlying30 rfl sizeOf25 (by decide) rfl U) ?_;refine qt (fun _ U W=>lD isAgg25 U (W rfl) rfl) ?_;refine qt (fun _ U W=>fR underlying30 rfl sizeOf25 (by decide) rfl U) ?_;refine qt (fun _ U W=>lD isAgg25 U (W rfl) rfl) ?_;refine qt (fun _ U W=>fR underlying30 rfl sizeOf23 (by decide) rfl U) ?_;refine qt (fun _ U W=>lD isAgg23 U (W rfl) rfl)<|kK (tl:=[(1,_),(128,_),(137,_),(139,_),(141,_),(143,_)]) ?_;obtain ⟨v53,hy54,h⟩:=zI h;refine qt (fun _ U W=>cN (ZY m1.have_ m1.dev v53 hy54) U call39 (xt (fun a b=>U a b) rfl rfl) rfl rfl rfl) ?_;obtain ⟨v55,hy56,h⟩:=zI h;refine qt (fun _ U W=>cN (ZX m1.have_ v53 v55 hy56) U call38 (xt (fun a b=>U a b) rfl rfl) rfl rfl rfl) ?_;refine qt (fun _ U W=>LR.not U) ?_;refine qt (fun _ U W=>pT U U) ?_;refine qs (fun _ U W=>pF U U)<|qN ?_;exact ⟨(!v55),(),h,sP⟩
              ·refine kF<|kF<|kF<|kF<|kF<|kF<|kK (tl:=[(1,_),(128,_),(137,_),(139,_),(141,_),(143,_)]) ?_;refine kF<|kF<|kF ?_;refine qt (fun _ U W=>pF U U) ?_;refine qs (fun _ U W=>pF U U)<|qN ?_;exact ⟨false,(),h,sP⟩
          ·refine kF<|kF<|kF<|kF ?_;refine qs (fun _ U W=>pF U U)<|qm ?_;refine qt (fun _ U W=>fR underlying30 rfl sizeOf25 (by decide) rfl U) ?_;refine qt (fun _ U W=>lD isAgg25 U (W rfl) rfl) ?_;obtain ⟨v57,hy58,h⟩:=zI h;refine qt (fun _ U W=>cN (xz m1.have_ v57 hy58) U call37 (xt (fun a b=>U a b) rfl rfl) rfl rfl rfl) ?_;refine qt (fun _ U W=>LR.not U) ?_;refine qs (fun _ U W=>pF U U)<|qm ?_;refine xQ (d:=128) h rfl (fun _ h=>?_) (fun _ h=>?_)
           ·refine kF<|kF<|kF<|kF<|kU<|kU<|kU<|kF<|kF ?_;refine kU<|kU<|kU<|kU<|kU<|kU<|kU<|kU<|kU ?_;refine kK (tl:=[(1,_),(128,_),(137,_),(146,_)]) ?_;refine kF ?_;refine qs (fun _ U W=>pT U U)<|qN ?_;exact ⟨true,(),h,sP⟩
           ·refine qt (fun _ U W=>fR underlying30 rfl sizeOf5 (by decide) rfl U) ?_;refine qt (fun _ U W=>lD isAgg5 U (W rfl) rfl) ?_;refine qt (fun _ U W=>eQ U U) ?_;refine qt (fun _ U W=>mV U) ?_;refine xQ (d:=132) h rfl (fun _ h=>?_) (fun _ h=>?_)
            ·refine kF<|kF<|kF ?_;refine qt (fun _ U W=>pT U U) ?_;refine qt (fun _ U W=>mV U) ?_;refine qt (fun _ U W=>fR underlying30 rfl sizeOf25 (by decide) rfl U) ?_;refine qt (fun _ U W=>lD isAgg25 U (W rfl) rfl) ?_;refine qt (fun _ U W=>fR underlying30 rfl sizeOf25 (by decide) rfl U) ?_;refine qt (fun _ U W=>lD isAgg25 U (W rfl) rfl) ?_;refine qt (fun _ U W=>fR underlying30 rfl sizeOf23 (by decide) rfl U) ?_;refine qt (fun _ U W=>lD isAgg23 U (W rfl) rfl) ?_;obtain ⟨v61,hy62,h⟩:=zI h;refine qt (fun _ U W=>cN (ZY m1.have_ m1.dev v61 hy62) U call39 (xt (fun a b=>U a b) rfl rfl) rfl rfl rfl) ?_;obtain ⟨v63,hy64,h⟩:=zI h;refine qt (fun _ U W=>cN (ZX m1.have_ v61 v63 hy64) U call38 (xt (fun a b=>U a b) rfl rfl) rfl rfl rfl)<|kK (tl:=[(1,_),(128,_),(137,_),(145,_)]) ?_;refine qt (fun _ U W=>LR.not U) ?_;refine qt (fun _ U W=>pT U U) ?_;refine qs (fun _ U W=>pF U U)<|qN ?_;exact ⟨(!v63),(),h,sP⟩
            ·refine qt (fun _ U W=>fR underlying30 rfl sizeOf5 (by decide) rfl U) ?_;refine qt (fun _ U W=>lD isAgg5 U (W rfl) rfl) ?_;refine qt (fun _ U W=>eQ U U) ?_;refine qt (fun _ U W=>pF U U) ?_;refine qt (fun _ U W=>mV U) ?_;refine xQ (d:=137) h rfl (fun _ h=>?_) (fun _ h=>?_)
             ·refine qt (fun _ U W=>fR underlying30 rfl sizeOf25 (by decide) rfl U) ?_;refine qt (fun _ U W=>lD isAgg25 U (W rfl) rfl) ?_;refine qt (fun _ U W=>fR underlying30 rfl sizeOf25 (by decide) rfl U) ?_;refine qt (fun _ U W=>lD isAgg25 U (W rfl) rfl) ?_;refine qt (fun _ U W=>fR underlying30 rfl sizeOf23 (by decide) rfl U) ?_;refine qt (fun _ U W=>lD isAgg23 U (W rfl) rfl) ?_;obtain ⟨v66,hy67,h⟩:=zI h;refine qt (fun _ U W=>cN (ZY m1.have_ m1.dev v66 hy67) U call39 (xt (fun a b=>U a b) rfl rfl) rfl rfl rfl)<|kK (tl:=[(1,_),(128,_),(137,_),(139,_),(144,_)]) ?_;obtain ⟨v68,hy69,h⟩:=zI h;refine qt (fun _ U W=>cN (ZX m1.have_ v66 v68 hy69) U call38 (xt (fun a b=>U a b) rfl rfl) rfl rfl rfl) ?_;refine qt (fun _ U W=>LR.not U) ?_;refine qt (fun _ U W=>pT U U) ?_;refine qs (fun _ U W=>pF U U)<|qN ?_;exact ⟨(!v68),(),h,sP⟩
             ·refine kF<|kF<|kF<|kF<|kF<|kF<|kF<|kK (tl:=[(1,_),(128,_),(137,_),(139,_),(144,_)]) ?_;refine kF<|kF ?_;refine qt (fun _ U W=>pF U U) ?_;refine qs (fun _ U W=>pF U U)<|qN ?_;exact ⟨false,(),h,sP⟩
         ·rintro v41 _ h;refine xD h rfl (fun _ h=>?_) (fun _ h=>?_)
          ·refine wQ<|wR<|wa ?_;refine wN<|wX ?_;cases h;exact xT
          ·refine wK<|wQ<|wQ ?_;refine wJ (zE h) (fun (v71:Bool) (_:Unit)=>⟨216,[(1,.ref 1 0),(177,.d (.v (.bool v71)))],[(1,.cells 30 [.d (.v (.int .u8 m1.kind)),.d (.v (.int .u8 m1.slot)),.d (.v (.int .u64 m1.try_)),.d (.v (.int .u16 m1.dev)),.d (.v (.int .u64 m1.epoch)),.d (.v (.int .u8 m1.why)),.d (.sl (List.map PT.e m1.have_)),.d (.sl (List.map PT.e m1.front)),.d (.sl (List.map PT.e m1.delta.from_)),.d (.sl (List.map PT.e m1.delta.to_)),.d (.sl (List.map EV.e m1.delta.events))])]⟩) (fun h=>?_) ?_
           ·refine wR<|ws (fR underlying30 rfl sizeOf5 (by decide) rfl rfl)<|ws (lD isAgg5 rfl rfl rfl)<|ws (nQ rfl rfl)<|wm ?_;refine xG (d:=152) h rfl (fun _ h=>?_) (fun _ h=>?_)
            ·refine wt (fR underlying30 rfl sizeOf25 (by decide) rfl rfl)<|wt (lD isAgg25 rfl rfl rfl)<|wt (lM (enc:=PT.e) (L:=m1.front) underlying25 rfl)<|wt (nQ rfl rfl)<|ws (pT rfl rfl)<|wm ?_;refine xG (d:=158) h rfl (fun _ h=>?_) (fun _ h=>?_)
             ·refine wf<|wf<|wf<|wf<|ws (pT rfl rfl)<|wm ?_;refine wf<|wy (tl:=[(1,_),(164,_),(165,_)]) (to:=[(1,_)]) ?_;refine wf<|wf<|wf<|wf<|wf<|wf<|wf<|wu<|wu ?_;refine wu<|wf<|ws (pT rfl rfl)<|wN ?_;exact ⟨true,(),h,sP⟩
             ·refine wt (fR underlying30 rfl sizeOf25 (by decide) rfl rfl)<|wt (lD isAgg25 rfl rfl rfl) ?_;obtain ⟨v74,hy75,h⟩:=zI h;refine wt (cN (xz m1.front v74 hy75) rfl call37 rfl rfl rfl rfl)<|wt (LR.not rfl)<|ws (pF rfl rfl)<|wm ?_;refine xG (d:=164) h rfl (fun _ h=>?_) (fun _ h=>?_)
              ·refine wy (tl:=[(1,_),(164,_)]) (to:=[(1,_)]) ?_;refine wf<|wf<|wf<|wf<|wf<|wf<|wf<|wf<|wu ?_;refine wu<|wu<|wf<|ws (pT rfl rfl)<|wN ?_;exact ⟨true,(),h,sP⟩
              ·refine wy (tl:=[(1,_),(164,_)]) (to:=[(1,_)]) ?_;refine wt (fR underlying30 rfl sizeOf25 (by decide) rfl rfl)<|wt (lD isAgg25 rfl rfl rfl)<|wt (fR underlying30 rfl sizeOf28 (by decide) rfl rfl)<|wt (fR underlying28 rfl sizeOf25 (by decide) rfl rfl)<|wt (lD isAgg25 rfl rfl rfl) ?_;obtain ⟨v77,hy78,h⟩:=zI h;refine wt (cN (ZZ m1.front m1.delta.to_ v77 hy78) rfl call40 rfl rfl rfl rfl)<|wt (LR.not rfl)<|wt (mV rfl) ?_;refine xG (d:=172) h rfl (fun _ h=>?_) (fun _ h=>?_)
               ·refine wt (fR underlying30 rfl sizeOf5 (by decide) rfl rfl)<|wt (lD isAgg5 rfl rfl rfl)<|wt (eQ rfl rfl)<|wt (pT rfl rfl)<|ws (pF rfl rfl)<|wN ?_;exact ⟨(decide (m1.kind = 4)),(),h,sP⟩
               ·refine wf<|wf<|wf<|wt (pF rfl rfl)<|ws (pF rfl rfl)<|wN ?_;exact ⟨false,(),h,sP⟩
            ·refine wf<|wf<|wf<|wf<|ws (pF rfl rfl)<|wm ?_;refine wt (fR underlying30 rfl sizeOf25 (by decide) rfl rfl)<|wt (lD isAgg25 rfl rfl rfl) ?_;obtain ⟨v80,hy81,h⟩:=zI h;refine wt (cN (xz m1.front v80 hy81) rfl call37 rfl rfl rfl rfl)<|wt (LR.not rfl)<|ws (pF rfl rfl)<|wm ?_;refine xG (d:=164) h rfl (fun _ h=>?_) (fun _ h=>?_)
             ·refine wf<|wy (tl:=[(1,_),(164,_),(165,_)]) (to:=[(1,_)]) ?_;refine wf<|wf<|wf<|wf<|wf<|wf<|wf<|wu<|wu ?_;refine wu<|wf<|ws (pT rfl rfl)<|wN ?_;exact ⟨true,(),h,sP⟩
             ·refine wt (fR underlying30 rfl sizeOf25 (by decide) rfl rfl)<|wy (tl:=[(1,_),(164,_),(165,_)]) (to:=[(1,_)]) ?_;refine wt (lD isAgg25 rfl rfl rfl)<|wt (fR underlying30 rfl sizeOf28 (by decide) rfl rfl)<|wt (fR underlying28 rfl sizeOf25 (by decide) rfl rfl)<|wt (lD isAgg25 rfl rfl rfl) ?_;obtain ⟨v83,hy84,h⟩:=zI h;refine wt (cN (ZZ m1.front m1.delta.to_ v83 hy84) rfl call40 rfl rfl rfl rfl)<|wt (LR.not rfl)<|wt (mV rfl) ?_;refine xG (d:=172) h rfl (fun _ h=>?_) (fun _ h=>?_)
              ·refine wt (fR underlying30 rfl sizeOf5 (by decide) rfl rfl)<|wt (lD isAgg5 rfl rfl rfl)<|wt (eQ rfl rfl)<|wt (pT rfl rfl)<|ws (pF rfl rfl)<|wN ?_;exact ⟨(decide (m1.kind = 4)),(),h,sP⟩
              ·refine wf<|wf<|wf<|wt (pF rfl rfl)<|ws (pF rfl rfl)<|wN ?_;exact ⟨false,(),h,sP⟩
           ·rintro v71 _ h;refine xD h rfl (fun _ h=>?_) (fun _ h=>?_)
            ·refine wQ<|wR<|wa ?_;refine wN<|wX ?_;cases h;exact xT
            ·refine wK<|wQ<|wQ<|wR<|ws (fR underlying30 rfl sizeOf5 (by decide) rfl rfl)<|ws (lD isAgg5 rfl rfl rfl)<|wN<|wB<|wQ ?_;refine wR<|ws (eQ rfl rfl)<|wa ?_;refine wN ?_;refine xD h rfl (fun _ h=>?_) (fun _ h=>?_)
             ·refine wQ ?_;refine wJ (zE h) (fun (v88:Bool) (_:Unit)=>⟨216,[(2,.d (.v (.bool v88)))],[]⟩) (fun h=>?_) ?_
              ·refine wR<|ws (fR underlying30 rfl sizeOf28 (by decide) rfl rfl)<|ws (lA (ps:=[_,_,_]) isAgg28 sizeOf28 rfl rfl rfl rfl) ?_;obtain ⟨v89,hy90,h⟩:=zI h;refine xN (UJ m1.delta v89 hy90) call41<|wm ?_;refine xG (d:=185) h rfl (fun _ h=>?_) (fun _ h=>?_)
               ·refine wt (fR underlying30 rfl sizeOf28 (by decide) rfl rfl)<|wt (fR underlying28 rfl sizeOf25 (by decide) rfl rfl)<|wt (lD isAgg25 rfl rfl rfl)<|wt (lM (enc:=PT.e) (L:=m1.delta.from_) underlying25 rfl)<|wt (eQ rfl rfl)<|ws (pT rfl rfl)<|wa ?_;refine wN ?_;exact ⟨(decide ((m1.delta.from_.length:Int) = 0)),(),h,sP⟩
               ·refine wf<|wf<|wf<|wf<|wf<|ws (pF rfl rfl)<|wa ?_;refine wN ?_;exact ⟨false,(),h,sP⟩
              ·rintro v88 _ h;refine wX ?_;cases h;exact xT
             ·refine wQ<|wR<|ws (eQ rfl rfl)<|wa ?_;refine wN ?_;refine xD h rfl (fun _ h=>?_) (fun _ h=>?_)
              ·refine wQ<|wR<|ws (fR underlying30 rfl sizeOf28 (by decide) rfl rfl)<|ws (lA (ps:=[_,_,_]) isAgg28 sizeOf28 rfl rfl rfl rfl) ?_;obtain ⟨v93,hy94,h⟩:=zI h;refine xN (UJ m1.delta v93 hy94) call41<|wa ?_;refine wN<|wX ?_;cases h;exact xT
              ·refine wQ<|wR<|ws (eQ rfl rfl)<|wa ?_;refine wN ?_;refine xD h rfl (fun _ h=>?_) (fun _ h=>?_)
               ·refine wQ ?_;refine wJ (zE h) (fun (v96:Bool) (_:Unit)=>⟨216,[(2,.d (.v (.bool v96)))],[]⟩) (fun h=>?_) ?_
                ·refine wR<|ws (fR underlying30 rfl sizeOf28 (by decide) rfl rfl)<|ws (lA (ps:=[_,_,_]) isAgg28 sizeOf28 rfl rfl rfl rfl)<|ws (fR underlying30 rfl sizeOf23 (by decide) rfl rfl)<|ws (lD isAgg23 rfl rfl rfl) ?_;obtain ⟨v97,hy98,h⟩:=zI h;refine xN (Qw m1.delta m1.dev v97 hy98) call42<|wm ?_;refine xG (d:=204) h rfl (fun _ h=>?_) (fun _ h=>?_)
                 ·refine wt (fR underlying30 rfl sizeOf25 (by decide) rfl rfl)<|wt (lD isAgg25 rfl rfl rfl)<|wt (fR underlying30 rfl sizeOf28 (by decide) rfl rfl)<|wt (fR underlying28 rfl sizeOf26 (by decide) rfl rfl)<|wy (tl:=[(204,_),(206,_),(208,_)]) (to:=[(1,_)]) ?_;refine wt (lD isAgg26 rfl rfl rfl) ?_;obtain ⟨v100,hy101,h⟩:=zI h;refine wt (cN (Uv m1.have_ m1.delta.events v100 hy101) rfl call43 rfl rfl rfl rfl)<|wt (LR.not rfl)<|ws (pT rfl rfl)<|wa ?_;refine wN ?_;exact ⟨(!v100),(),h,sP⟩
                 ·refine wf<|wf<|wf<|wf<|wy (tl:=[(204,_),(206,_),(208,_)]) (to:=[]) ?_;refine wf<|wf<|wf<|ws (pF rfl rfl)<|wa ?_;refine wN ?_;exact ⟨false,(),h,sP⟩
                ·rintro v96 _ h;refine wX ?_;cases h;exact xT
               ·refine wK<|wQ<|wR<|ws (fR underlying30 rfl sizeOf28 (by decide) rfl rfl)<|ws (lA (ps:=[_,_,_]) isAgg28 sizeOf28 rfl rfl rfl rfl) ?_;obtain ⟨v102,hy103,h⟩:=zI h;refine xN (Qy m1.delta v102 hy103) call44<|wa ?_;refine wN<|wX ?_;cases h;exact xT

theorem zAa (c1:Int) (x2:Int) (r0:Int) (h:(VR c1 x2).wp (· = r0)):PFun prog 78 [.d (.v (.int .u32 c1)),.d (.v (.int .u8 x2))] (.d (.v (.int .u32 r0))):=by
 refine fI (sl:=[(0,_),(1,_)]) func78 rfl ntmps78 rfl rfl ?_;intro ctx hK;refine wQ<|wR<|wa ?_;refine wN<|wQ<|wR<|wm ?_;refine wm ?_;refine ws (LR.convInt underlying77 (by rw [underlying5];rfl) rfl rfl) ?_;refine ws (LR.xor rfl rfl)<|wa ?_;refine wN<|wQ<|wQ<|wR<|wa ?_;refine wN ?_;refine wJ (zE h) (fun (c3:Int) (_:Unit)=>⟨24,[(0,.d (.v (.int .u32 c3)))],[]⟩) (fun h=>?_) ?_
 ·refine wB<|wM (fun (⟨c12,i13⟩:Int × Int) (_:Unit)=>⟨24,[(0,.d (.v (.int .u32 c12))),(5,.d (.v (.int .i64 i13)))],[]⟩) () h (sP) ?_;rintro N ⟨c12,i13⟩ _ h;refine wQ<|wQ<|wR<|wm ?_;refine ws (LR.lss rfl rfl)<|wN ?_;refine xD h rfl (fun _ h=>?_) (fun _ h=>?_)
  ·refine wK<|wQ ?_;refine wJ (zE h) (fun (c15:Int) (_:Unit)=>⟨24,[(0,.d (.v (.int .u32 c15))),(5,.d (.v (.int .i64 i13)))],[]⟩) (fun h=>?_) ?_
   ·refine wB<|wQ<|wR<|wm ?_;refine ws (LR.rem rfl rfl (by decide))<|ws (eQ rfl rfl)<|wa ?_;refine wN<|wQ<|wR<|wm ?_;refine ws (LR.quoW rfl rfl (by decide))<|wa ?_;refine wN<|wQ<|wR<|wm ?_;refine wN ?_;refine xD h rfl (fun _ h=>?_) (fun _ h=>?_)
    ·refine wR<|wm ?_;refine ws (LR.xor rfl rfl)<|wa ?_;refine wN ?_;exact ⟨(XO .u32 (IntKind.u32.wrap (Int.tdiv c12 2)) 3988292384),(),h,sP⟩
    ·refine wK ?_;exact ⟨(IntKind.u32.wrap (Int.tdiv c12 2)),(),h,sP⟩
   ·rintro c15 _ h;refine wR<|wm ?_;refine ws (LR.addW rfl rfl)<|wa ?_;refine wN ?_;exact ⟨(c15,(IntKind.i64.wrap (i13 + 1))),(),h,sP⟩
  ·refine wZ ?_;exact ⟨c12,(),h,sP⟩
 ·rintro c3 _ h;refine wQ<|wR<|wm ?_;refine wa ?_;refine wN<|wX ?_;cases h;exact xT

theorem zBa (sum1:Int) (b2:List Int) (r0:Int) (h:(Xf sum1 b2).wp (· = r0)):PFun prog 45 [.d (.v (.int .u32 sum1)),.d (.sl (List.map (eK .u8) b2))] (.d (.v (.int .u32 r0))):=by
 refine fI (sl:=[(0,_),(1,_)]) func45 rfl ntmps45 rfl rfl ?_;intro ctx hK;refine wQ<|wR<|wa ?_;refine wN<|wQ<|wR<|wm ?_;refine ws (LR.xor rfl rfl)<|wa ?_;refine wN<|wQ<|wQ<|wR<|wa ?_;refine wN ?_;refine wJ (zE h) (fun (c3:Int) (_:Unit)=>⟨23,[(5,.d (.v (.int .u32 c3)))],[]⟩) (fun h=>?_) ?_
 ·refine wB<|wM (fun (⟨c16,i17⟩:Int × Int) (_:Unit)=>⟨23,[(1,.d (.sl (List.map (eK .u8) b2))),(5,.d (.v (.int .u32 c16))),(6,.d (.v (.int .i64 i17)))],[]⟩) () h (sP) ?_;rintro N ⟨c16,i17⟩ _ h;refine wQ<|wQ<|wR<|wm ?_;refine wm ?_;refine ws (lM (enc:=(eK .u8)) (L:=b2) underlying33 rfl)<|ws (LR.lss rfl rfl)<|wN ?_;refine xD h rfl (fun _ h=>?_) (fun _ h=>?_)
  ·refine wK<|wQ<|wB<|wR<|wm ?_;refine wm ?_;refine wm ?_;obtain ⟨x19,hy20,h⟩:=zj h;refine ws (iX (enc:=(eK .u8)) (L:=b2) (y:=x19) underlying33 sizeOf5 rfl rfl hy20 (fun _=>rfl))<|ws (LR.loadEp isAgg5 rfl rfl) ?_;obtain ⟨v21,hy22,h⟩:=zI h;refine xN (zAa c16 x19 v21 hy22) call78<|wa ?_;refine wN<|wR<|wm ?_;refine ws (LR.addW rfl rfl)<|wa ?_;refine wN ?_;exact ⟨(v21,(IntKind.i64.wrap (i17 + 1))),(),h,sP⟩
  ·refine wZ ?_;exact ⟨c16,(),h,sP⟩
 ·rintro c3 _ h;refine wQ<|wR<|wm ?_;refine ws (LR.xor rfl rfl)<|wa ?_;refine wN<|wX ?_;cases h;exact xT

theorem zCa (kind1:Int) (body2:List Int) (r0:List Int) (h:(Xg kind1 body2).wp (· = r0)):PRow prog 20 [.d (.v (.int .u8 kind1)),.d (.sl (List.map (eK .u8) body2))] 5 1 (List.map (eK .u8) r0):=by
 refine PRow.intro (sl:=[(0,_),(1,_)]) func20 rfl ntmps20 rfl rfl ?_;intro ctx hK;refine wQ<|wR<|ws (aR 5 1 rfl)<|wN<|wQ<|wR<|wm ?_;refine ws (LR.buildSlice [.tmp 8] zt rfl rfl (.cons rfl rfl rfl<|.nil) (by decide) (by decide) rfl)<|wm ?_;obtain ⟨hy3,h⟩:=zh h;refine ws (LR.appT (enc:=(eK .u8)) (L:=[kind1]) (R:=body2) [9] zt underlying33 rfl (by first | (simp;done) | (simp;omega) | omega) rfl (Src.slT (enc:=(eK .u8)) (R:=body2) rfl (fun _=>rfl)) (fun _=>rfl) hy3 rfl rfl) ?_;refine wa ?_;refine wN<|wQ<|wR<|wm ?_;obtain ⟨v4,hy5,h⟩:=zI h;refine ws (LR.callLend (zBa 0 ([kind1] ++ body2) v4 hy5) rfl call45 rfl (.data rfl rfl<|.row rfl (by simp)<|.nil)) ?_;refine wa ?_;refine wN<|wQ<|wQ<|wR<|wa ?_;refine wN ?_;refine wJ (zE h) (fun (v6:List Int) (_:Unit)=>⟨27,[(5,.row 9 (v6.length))],[(9,.row 5 1 (List.map (eK .u8) v6))]⟩) (fun h=>?_) ?_
 ·refine wB<|wM (fun (⟨c14,i15,v16⟩:Int × Int × List Int) (_:Unit)=>⟨27,[(5,.row 9 (v16.length)),(6,.d (.v (.int .u32 c14))),(7,.d (.v (.int .i64 i15)))],[(9,.row 5 1 (List.map (eK .u8) v16))]⟩) () h (sP) ?_;rintro N ⟨c14,i15,v16⟩ _ h;refine wQ<|wQ<|wR<|wm ?_;refine ws (LR.lss rfl rfl)<|wN ?_;refine xD h rfl (fun _ h=>?_) (fun _ h=>?_)
  ·refine wK<|wQ<|wB<|wQ<|wR<|wm ?_;refine wm ?_;refine ws (LR.rem rfl rfl (by decide)) ?_;refine ws (LR.convInt underlying5 (by rw [underlying77];rfl) rfl rfl) ?_;refine ws (LR.buildSliceD [.tmp 21] zt rfl rfl (.cons rfl rfl rfl<|.nil) (by decide) (by decide)) ?_;obtain ⟨hy18,h⟩:=zh h;refine ws (LR.appT (enc:=(eK .u8)) (L:=v16) (R:=[(IntKind.u8.wrap (Int.tmod c14 256))]) [5,18] zt underlying33 rfl rfl rfl (Src.slT (enc:=(eK .u8)) (R:=[(IntKind.u8.wrap (Int.tmod c14 256))]) rfl (fun _=>rfl)) (fun _=>rfl) hy18 rfl rfl)<|wa ?_;refine wN<|wR<|wm ?_;refine ws (LR.quoW rfl rfl (by decide))<|wa ?_;refine wN<|wR<|wm ?_;refine ws (LR.addW rfl rfl)<|wa ?_;refine wN ?_;exact ⟨((IntKind.u32.wrap (Int.tdiv c14 256)),(IntKind.i64.wrap (i15 + 1)),(v16 ++ [(IntKind.u8.wrap (Int.tmod c14 256))])),(),h,sO rfl (.cons rfl (by first | rfl | (simp;done) | (congr 1;first | (simp;done) | (simp;omega) | omega))<|.c2 rfl rfl rfl rfl<|.nil) (.cons rfl rfl<|.nil)⟩
  ·refine wZ ?_;exact ⟨v16,(),h,sP⟩
 ·rintro v6 _ h;refine wQ<|wR<|wm ?_;refine wa ?_;refine wN<|wX ?_;cases h;exact ⟨.inr rfl,4,rfl,.inr ⟨9,_,rfl,(by simp),rfl⟩⟩

theorem yua (v1:Int) (r0:Int) (h:(jy v1).wp (· = r0)):PFun prog 79 [.d (.v (.int .u64 v1))] (.d (.v (.int .i64 r0))):=by
 refine fI (sl:=[(0,_)]) func79 rfl ntmps79 rfl rfl ?_;intro ctx hK;refine wQ<|wR<|wa ?_;refine wN<|wQ<|wR<|wa ?_;refine wN<|wQ ?_;refine wJ (zE h) (fun (n2:Int) (_:Unit)=>⟨11,[(3,.d (.v (.int .i64 n2)))],[]⟩) (fun h=>?_) ?_
 ·refine wB<|wM (fun (⟨v7,n8⟩:Int × Int) (_:Unit)=>⟨11,[(0,.d (.v (.int .u64 v7))),(3,.d (.v (.int .i64 n8)))],[]⟩) () h (sP) ?_;rintro N ⟨v7,n8⟩ _ h;refine wQ<|wQ<|wR<|wm ?_;refine ws (LR.gtr rfl rfl)<|wN ?_;refine xD h rfl (fun _ h=>?_) (fun _ h=>?_)
  ·refine wK<|wB<|wQ<|wR<|wm ?_;refine ws (LR.quoW rfl rfl (by decide))<|wa ?_;refine wN<|wR<|wm ?_;refine ws (LR.addW rfl rfl)<|wa ?_;refine wN ?_;exact ⟨((IntKind.u64.wrap (Int.tdiv v7 256)),(IntKind.i64.wrap (n8 + 1))),(),h,sP⟩
  ·refine wZ ?_;exact ⟨n8,(),h,sP⟩
 ·rintro n2 _ h;refine wQ<|wR<|wm ?_;refine wa ?_;refine wN<|wX ?_;cases h;exact xT


theorem zDa (v1:Int) (i2:Int) (r0:Int) (h:(VS v1 i2).wp (· = r0)):PFun prog 80 [.d (.v (.int .u64 v1)),.d (.v (.int .i64 i2))] (.d (.v (.int .u8 r0))):=by
 refine fI (sl:=[(0,_),(1,_)]) func80 rfl ntmps80 rfl rfl ?_;intro ctx hK;refine wQ<|wR<|wa ?_;refine wN<|wQ<|wQ ?_;refine wJ (zE h) (fun (v3:Bool) (_:Unit)=>⟨22,[(0,.d (.v (.int .u64 v1))),(1,.d (.v (.int .i64 i2))),(11,.d (.v (.bool v3)))],[]⟩) (fun h=>?_) ?_
 ·refine wR<|wm ?_;refine ws (LR.lss rfl rfl)<|wm ?_;refine xG (d:=8) h rfl (fun _ h=>?_) (fun _ h=>?_)
  ·refine wf<|wf<|ws (pT rfl rfl)<|wN ?_;exact ⟨true,(),h,sP⟩
  ·refine wt (mV rfl)<|wt (LR.gtr rfl rfl)<|ws (pF rfl rfl)<|wN ?_;exact ⟨(decide (7 < i2)),(),h,sP⟩
 ·rintro v3 _ h;refine xD h rfl (fun _ h=>?_) (fun _ h=>?_)
  ·refine wQ<|wR<|wa ?_;refine wN<|wX ?_;cases h;exact xT
  ·refine wK<|wQ<|wQ<|wR<|wa ?_;refine wN ?_;refine wJ (zE h) (fun (v6:Int) (_:Unit)=>⟨22,[(0,.d (.v (.int .u64 v6)))],[]⟩) (fun h=>?_) ?_
   ·refine wB<|wM (fun (⟨v11,k12⟩:Int × Int) (_:Unit)=>⟨22,[(0,.d (.v (.int .u64 v11))),(1,.d (.v (.int .i64 i2))),(5,.d (.v (.int .i64 k12)))],[]⟩) () h (sP) ?_;rintro N ⟨v11,k12⟩ _ h;refine wQ<|wQ<|wR<|wm ?_;refine wm ?_;refine ws (LR.lss rfl rfl)<|wN ?_;refine xD h rfl (fun _ h=>?_) (fun _ h=>?_)
    ·refine wK<|wQ<|wB<|wR<|wm ?_;refine ws (LR.quoW rfl rfl (by decide))<|wa ?_;refine wN<|wR<|wm ?_;refine ws (LR.addW rfl rfl)<|wa ?_;refine wN ?_;exact ⟨((IntKind.u64.wrap (Int.tdiv v11 256)),(IntKind.i64.wrap (k12 + 1))),(),h,sP⟩
    ·refine wZ ?_;exact ⟨v11,(),h,sP⟩
   ·rintro v6 _ h;refine wQ<|wR<|wm ?_;refine ws (LR.rem rfl rfl (by decide)) ?_;refine ws (LR.convInt underlying5 (by rw [underlying22];rfl) rfl rfl) ?_;refine wa ?_;refine wN<|wX ?_;cases h;exact xT

theorem za (b1:List Int) (v2:Int) (r0:List Int) (h:(zc b1 v2).wp (· = r0)):PRow prog 46 [.d (.sl (List.map (eK .u8) b1)),.d (.v (.int .u64 v2))] 5 1 (List.map (eK .u8) r0):=by
 refine PRow.intro (sl:=[(0,_),(1,_)]) func46 rfl ntmps46 rfl rfl ?_;intro ctx hK;refine wQ<|wR<|ws (aR 5 1 rfl)<|wN<|wQ<|wR<|ws (LR.buildSlice [] zt rfl rfl (.nil) (by decide) (by decide) rfl)<|wm ?_;obtain ⟨hy3,h⟩:=zh h;refine ws (LR.appT (enc:=(eK .u8)) (L:=([]:List Int)) (R:=b1) [8] zt underlying33 rfl (by first | (simp;done) | (simp;omega) | omega) rfl (Src.slT (enc:=(eK .u8)) (R:=b1) rfl (fun _=>rfl)) (fun _=>rfl) hy3 rfl rfl) ?_;refine wa ?_;refine wN<|wQ<|wR<|wm ?_;obtain ⟨v4,hy5,h⟩:=zI h;refine xN (yua v2 v4 hy5) call79<|wa ?_;refine wN<|wQ<|wR<|wm ?_;refine wm ?_;refine ws (LR.convInt underlying5 (by rw [underlying3];rfl) rfl rfl) ?_;refine ws (LR.buildSliceD [.tmp 15] zt rfl rfl (.cons rfl rfl rfl<|.nil) (by decide) (by decide)) ?_;obtain ⟨hy6,h⟩:=zh h;refine ws (LR.appT (enc:=(eK .u8)) (L:=(([]:List Int) ++ b1)) (R:=[(IntKind.u8.wrap v4)]) [5,10,13] zt underlying33 rfl rfl rfl (Src.slT (enc:=(eK .u8)) (R:=[(IntKind.u8.wrap v4)]) rfl (fun _=>rfl)) (fun _=>rfl) hy6 rfl rfl)<|wa ?_;refine wN<|wQ<|wQ<|wR<|wm ?_;refine ws (LR.subW rfl rfl)<|wa ?_;refine wN ?_;refine wJ (zE h) (fun (v7:List Int) (_:Unit)=>⟨31,[(5,.row 8 (v7.length))],[(8,.row 5 1 (List.map (eK .u8) v7))]⟩) (fun h=>?_) ?_
 ·refine wB ?_;refine wM (fun (⟨i18,v19⟩:Int × List Int) (_:Unit)=>⟨31,[(1,.d (.v (.int .u64 v2))),(5,.row 8 (v19.length)),(7,.d (.v (.int .i64 i18)))],[(8,.row 5 1 (List.map (eK .u8) v19))]⟩) () h (sO rfl (.cons rfl rfl<|.cons rfl (by first | rfl | (simp;done) | (congr 1;first | (simp;done) | (simp;omega) | omega))<|.cons rfl rfl<|.nil) (.cons rfl rfl<|.nil)) ?_;rintro N ⟨i18,v19⟩ _ h;refine wQ<|wQ<|wR<|wm ?_;refine ws (LR.geq rfl rfl)<|wN ?_;refine xD h rfl (fun _ h=>?_) (fun _ h=>?_)
  ·refine wK<|wQ<|wB<|wR<|wm ?_;refine wm ?_;refine wm ?_;obtain ⟨v21,hy22,h⟩:=zI h;refine xN (zDa v2 i18 v21 hy22) call80<|ws (LR.buildSliceD [.tmp 27] zt rfl rfl (.cons rfl rfl rfl<|.nil) (by decide) (by decide)) ?_;obtain ⟨hy23,h⟩:=zh h;refine ws (LR.appT (enc:=(eK .u8)) (L:=v19) (R:=[v21]) [5,24] zt underlying33 rfl rfl rfl (Src.slT (enc:=(eK .u8)) (R:=[v21]) rfl (fun _=>rfl)) (fun _=>rfl) hy23 rfl rfl)<|wa ?_;refine wN<|wR<|wm ?_;refine ws (LR.subW rfl rfl)<|wa ?_;refine wN ?_;exact ⟨((IntKind.i64.wrap (i18 - 1)),(v19 ++ [v21])),(),h,sP⟩
  ·refine wZ ?_;exact ⟨v19,(),h,sP⟩
 ·rintro v7 _ h;refine wQ<|wR<|wm ?_;refine wa ?_;refine wN<|wX ?_;cases h;exact ⟨.inr rfl,4,rfl,.inr ⟨8,_,rfl,(by simp),rfl⟩⟩

theorem vP (b1:List Int) (c2:List PT) (r0:List Int) (h:(yt b1 c2).wp (· = r0)):PFun prog 47 [.d (.sl (List.map (eK .u8) b1)),.d (.sl (List.map PT.e c2))] (.d (.sl (List.map (eK .u8) r0))):=by
 refine fI (sl:=[(0,_),(1,_)]) func47 rfl ntmps47 rfl rfl ?_;intro ctx hK;refine wQ<|wR<|ws (aR 5 1 rfl)<|wN<|wQ<|wR<|wm ?_;obtain ⟨v3,hy4,h⟩:=zI h;refine ws (LR.rowN (ZW c2 v3 hy4) rfl call69 rfl rfl rfl rfl)<|wa ?_;refine wN<|wQ<|wR<|wm ?_;refine wm ?_;refine ws (LR.lenRow underlying25 rfl) ?_;refine ws (LR.convInt underlying22 (by rw [underlying3];rfl) rfl rfl) ?_;obtain ⟨v5,hy6,h⟩:=zI h;refine ws (LR.rowN (za b1 ((IntKind.u64.wrap (v3.length:Int))) v5 hy6) rfl call46 rfl rfl rfl rfl)<|wa ?_;refine wN<|wQ<|wQ<|wR<|wa ?_;refine wN ?_;refine wJ (zE h) (fun (out7:List Int) (_:Unit)=>⟨70,[(5,.d (.sl (List.map (eK .u8) out7)))],[]⟩) (fun h=>?_) ?_
 ·refine wB<|wM (fun (⟨out128,i129⟩:List Int × Int) (_:Unit)=>⟨70,[(1,.row 9 (v3.length)),(5,.d (.sl (List.map (eK .u8) out128))),(6,.d (.v (.int .i64 i129)))],[(9,.row 55 2 (List.map PT.e v3))]⟩) () h (Sub.trans (Sub.frz [5,14] hK rfl (by simp) (AllRow.get (.cons rfl<|.cons rfl<|.nil)))<|sP) ?_;rintro N ⟨out128,i129⟩ _ h;refine wQ<|wQ<|wR<|wm ?_;refine wm ?_;refine ws (LR.lenRow underlying25 rfl)<|ws (LR.lss rfl rfl)<|wN ?_;refine xD h rfl (fun _ h=>?_) (fun _ h=>?_)
  ·refine wK<|wQ ?_;refine wJ (zE h) (fun (out131:List Int) (_:Unit)=>⟨70,[(1,.row 9 (v3.length)),(5,.d (.sl (List.map (eK .u8) out131))),(6,.d (.v (.int .i64 i129)))],[(9,.row 55 2 (List.map PT.e v3))]⟩) (fun h=>?_) ?_
   ·refine wB<|wQ<|wR<|wm ?_;refine wm ?_;refine wm ?_;obtain ⟨x132,hy133,h⟩:=zj h;refine ws (LR.idxRowT (L:=v3) (y:=x132) underlying25 sizeOf55 rfl rfl rfl hy133)<|ws (LR.fieldRp underlying55 rfl sizeOf23 (by decide) rfl rfl)<|ws (LR.loadRpF (enc:=PT.e) (L:=v3) (y:=x132) isAgg23 rfl rfl hy133.2 rfl) ?_;refine ws (LR.convInt underlying22 (by rw [underlying23];rfl) rfl rfl) ?_;obtain ⟨v134,hy135,h⟩:=zI h;refine ws (LR.rowN (za out128 (IntKind.u64.wrap x132.dev) v134 hy135) rfl call46 rfl rfl rfl rfl)<|wa ?_;refine wN<|wQ<|wR<|wm ?_;refine wm ?_;refine wm ?_;obtain ⟨x136,hy137,h⟩:=zj h;refine ws (LR.idxRowT (L:=v3) (y:=x136) underlying25 sizeOf55 rfl rfl rfl hy137)<|ws (LR.fieldRp underlying55 rfl sizeOf53 (by decide) rfl rfl)<|wy (tl:=[(1,_),(5,_),(6,_),(29,_),(33,_)]) (to:=[(9,_),(28,_)]) ?_;refine ws (LR.loadRpF (enc:=PT.e) (L:=v3) (y:=x136) isAgg53 rfl rfl hy137.2 rfl)<|ws (lM (enc:=RN.e) (L:=x136.runs) underlying53 rfl) ?_;refine ws (LR.convInt underlying22 (by rw [underlying3];rfl) rfl rfl) ?_;obtain ⟨v138,hy139,h⟩:=zI h;refine PWl.frz [5,29] hK (.cons rfl<|.cons rfl<|.nil) rfl (by simp) ?_;refine ws (LR.rowN (za v134 (IntKind.u64.wrap (x136.runs.length:Int)) v138 hy139) rfl call46 rfl rfl rfl rfl)<|wa ?_;refine wN<|wQ<|wR<|wa ?_;refine wN<|wB<|wM (fun (⟨out172,k173⟩:List Int × Int) (_:Unit)=>⟨70,[(1,.row 9 (v3.length)),(5,.d (.sl (List.map (eK .u8) out172))),(6,.d (.v (.int .i64 i129))),(7,.d (.v (.int .i64 k173)))],[(9,.row 55 2 (List.map PT.e v3))]⟩) () h (Sub.trans (Sub.frz [5,37] hK rfl (by simp) (AllRow.get (.cons rfl<|.cons rfl<|.nil)))<|sP) ?_;rintro N ⟨out172,k173⟩ _ h;refine wQ<|wQ<|wR<|wm ?_;refine wm ?_;refine wm ?_;obtain ⟨x174,hy175,h⟩:=zj h;refine ws (LR.idxRowT (L:=v3) (y:=x174) underlying25 sizeOf55 rfl rfl rfl hy175)<|ws (LR.fieldRp underlying55 rfl sizeOf53 (by decide) rfl rfl)<|ws (LR.loadRpF (enc:=PT.e) (L:=v3) (y:=x174) isAgg53 rfl rfl hy175.2 rfl)<|ws (lM (enc:=RN.e) (L:=x174.runs) underlying53 rfl)<|ws (LR.lss rfl rfl)<|wN ?_;refine xD h rfl (fun _ h=>?_) (fun _ h=>?_)
    ·refine wK<|wQ<|wB<|wz (tl:=[(1,_),(5,_),(6,_),(7,_)]) (to:=[(9,_)]) ?_;refine PWc.regionE [{ws:=[48]},⟨[49],[],[],[],[],[9],[],[]⟩,{ws:=[50]},⟨[51],[],[],[],[],[9],[],[]⟩,⟨[52],[],[],[],[],[9],[],[]⟩,⟨[53],[],[9],[],[],[],[],[]⟩,{ws:=[54]},{ws:=[55]},{ws:=[56]},{ws:=[57]},{ws:=[58]},⟨[59],[],[],[],[],[9],[],[]⟩,{ws:=[60]},⟨[61],[],[],[],[],[9],[],[]⟩,⟨[62],[],[],[],[],[9],[],[]⟩,⟨[63],[],[9],[],[],[],[],[]⟩,{ws:=[64]},{ws:=[65]},{ws:=[66]},{ws:=[67]},⟨[68],[68],[],[68],[],[68],[],[]⟩,⟨[5],[],[],[],[],[68],[],[]⟩] (by kernel_rfl) (by kernel_rfl) rfl<|km ?_;refine km ?_;refine km ?_;obtain ⟨x177,hy178,h⟩:=zj h;refine kp (fun _ U W=>LR.idxRowT (L:=v3) (y:=x177) underlying25 sizeOf55 U rfl U hy178) ?_;refine kp (fun _ U W=>LR.fieldRp underlying55 rfl sizeOf53 (by decide) rfl U) ?_;refine kp (fun _ U W=>LR.loadRpF (enc:=PT.e) (L:=v3) (y:=x177) isAgg53 U (W rfl rfl) hy178.2 rfl)<|km ?_;obtain ⟨x179,hy180,h⟩:=zj h;refine kp (fun _ U W=>iX (enc:=RN.e) (L:=x177.runs) (y:=x179) underlying53 sizeOf65 U U hy180 (fun _=>rfl)) ?_;refine kp (fun _ U W=>fE underlying65 rfl sizeOf22 (by decide) rfl U) ?_;refine kp (fun _ U W=>LR.loadEp isAgg22 U rfl) ?_;obtain ⟨v181,hy182,h⟩:=zI h;refine kp (fun _ U W=>cN (PRow.fun (za out172 x179.lo v181 hy182)) U call46 (xt (fun a b=>U a b) rfl rfl) rfl rfl rfl)<|km ?_;refine km ?_;obtain ⟨x183,hy184,h⟩:=zj h;refine kp (fun _ U W=>LR.idxRowT (L:=v3) (y:=x183) underlying25 sizeOf55 U rfl U hy184) ?_;refine kp (fun _ U W=>LR.fieldRp underlying55 rfl sizeOf53 (by decide) rfl U) ?_;refine kp (fun _ U W=>LR.loadRpF (enc:=PT.e) (L:=v3) (y:=x183) isAgg53 U (W rfl rfl) hy184.2 rfl)<|km ?_;obtain ⟨x185,hy186,h⟩:=zj h;refine kp (fun _ U W=>iX (enc:=RN.e) (L:=x183.runs) (y:=x185) underlying53 sizeOf65 U U hy186 (fun _=>rfl)) ?_;refine kp (fun _ U W=>fE underlying65 rfl sizeOf22 (by decide) rfl U) ?_;refine kp (fun _ U W=>LR.loadEp isAgg22 U rfl) ?_;obtain ⟨v187,hy188,h⟩:=zI h;refine PQe.stepN (fun _ U W hf=>LR.rowN (za v181 x185.hi v187 hy188) (U rfl rfl) call46 (xt U rfl rfl) rfl rfl hf) rfl (.inl rfl) rfl ?_;refine kp (fun _ U W=>aS U)<|PQe.nil<|wz (tl:=[(1,_),(5,_),(6,_),(7,_)]) (to:=[(9,_),(68,_)]) ?_;refine wR<|wm ?_;refine ws (LR.addW rfl rfl)<|wa ?_;refine wN ?_;exact ⟨(v187,(IntKind.i64.wrap (k173 + 1))),(),h,Sub.trans (Sub.frz [5] hK rfl (by simp) (AllRow.get (.cons rfl<|.nil)))<|sP⟩
    ·refine wZ ?_;exact ⟨out172,(),h,sP⟩
   ·rintro out131 _ h;refine wR<|wm ?_;refine ws (LR.addW rfl rfl)<|wa ?_;refine wN ?_;exact ⟨(out131,(IntKind.i64.wrap (i129 + 1))),(),h,sP⟩
  ·refine wZ ?_;exact ⟨out128,(),h,sP⟩
 ·rintro out7 _ h;refine wQ<|wR<|wm ?_;refine wa ?_;refine wN<|wX ?_;cases h;exact xT

theorem Xr (b1:List Int) (d2:DT) (r0:List Int) (h:(uh b1 d2).wp (· = r0)):PRow prog 114 [.d (.sl (List.map (eK .u8) b1)),.agg (List.map .d (DT.e d2))] 5 1 (List.map (eK .u8) r0):=by
 refine PRow.intro (sl:=[(0,_),(1,_)]) func114 rfl ntmps114 rfl rfl ?_;intro ctx hK;refine wQ<|wR<|ws (LR.box rfl rfl rfl rfl)<|ws (aR 5 1 rfl)<|wN<|wQ<|wz (tl:=[(0,_),(3,_)]) (to:=[(3,_)]) ?_;refine PWc.regionE [{ws:=[5]},⟨[6],[],[],[],[],[3],[],[]⟩,⟨[7],[],[3],[],[],[],[],[]⟩,{ws:=[8]},{ws:=[9]},⟨[10],[],[],[],[],[3],[],[]⟩,⟨[11],[],[3],[],[],[],[],[]⟩,⟨[12],[12],[],[12],[],[12],[],[]⟩,⟨[4],[],[],[],[],[12],[],[]⟩] (by kernel_rfl) (by kernel_rfl) rfl<|km ?_;refine kp (fun _ U W=>fR underlying67 rfl sizeOf23 (by decide) rfl U) ?_;refine kp (fun _ U W=>lD isAgg23 U (W rfl rfl) rfl) ?_;refine kp (fun _ U W=>LR.convInt underlying22 (by rw [underlying23];rfl) U rfl) ?_;obtain ⟨v3,hy4,h⟩:=zI h;refine kp (fun _ U W=>cN (PRow.fun (za b1 (IntKind.u64.wrap d2.dev) v3 hy4)) U call46 (xt (fun a b=>U a b) rfl rfl) rfl rfl rfl) ?_;refine kp (fun _ U W=>fR underlying67 rfl sizeOf22 (by decide) rfl U) ?_;refine kp (fun _ U W=>lD isAgg22 U (W rfl rfl) rfl) ?_;obtain ⟨v5,hy6,h⟩:=zI h;refine PQe.stepN (fun _ U W hf=>LR.rowN (za v3 d2.n v5 hy6) (U rfl rfl) call46 (xt U rfl rfl) rfl rfl hf) rfl (.inl rfl) rfl ?_;refine kp (fun _ U W=>aS U)<|PQe.nil<|wX ?_;cases h;exact ⟨.inr rfl,4,rfl,.inr ⟨12,_,rfl,(by simp),rfl⟩⟩

theorem zEa (b1:List Int) (s2:ByteArray) (r0:List Int) (h:(VT b1 s2).wp (· = r0)):PRow prog 115 [.d (.sl (List.map (eK .u8) b1)),.d (.v (.string s2))] 5 1 (List.map (eK .u8) r0):=by
 refine PRow.intro (sl:=[(0,_),(1,_)]) func115 rfl ntmps115 rfl rfl ?_;intro ctx hK;refine wQ<|wR<|ws (aR 5 1 rfl)<|wN<|wQ<|wR<|wm ?_;refine wm ?_;refine ws (LR.lenStr underlying9 rfl) ?_;refine ws (LR.convInt underlying22 (by rw [underlying3];rfl) rfl rfl) ?_;obtain ⟨v3,hy4,h⟩:=zI h;refine ws (LR.rowN (za b1 (IntKind.u64.wrap (ByteArray.size s2:Int)) v3 hy4) rfl call46 rfl rfl rfl rfl)<|wa ?_;refine wN<|wQ<|wQ<|wR<|wa ?_;refine wN ?_;refine wJ (zE h) (fun (v5:List Int) (_:Unit)=>⟨25,[(5,.row 11 (v5.length))],[(11,.row 5 1 (List.map (eK .u8) v5))]⟩) (fun h=>?_) ?_
 ·refine wB<|wM (fun (⟨i_16,v17⟩:Int × List Int) (_:Unit)=>⟨25,[(1,.d (.v (.string s2))),(5,.row 11 (v17.length)),(6,.d (.v (.int .i64 i_16)))],[(11,.row 5 1 (List.map (eK .u8) v17))]⟩) () h (sP) ?_;rintro N ⟨i_16,v17⟩ _ h;refine wQ<|wQ<|wR<|wm ?_;refine wm ?_;refine ws (LR.lenStr underlying9 rfl)<|ws (LR.lss rfl rfl)<|wN ?_;refine xD h rfl (fun _ h=>?_) (fun _ h=>?_)
  ·refine wK<|wQ<|wB<|wR<|wm ?_;refine wm ?_;refine wm ?_;obtain ⟨b19,hy20,h⟩:=zj h;refine ws (LR.strIdx underlying9 rfl rfl hy20)<|ws (LR.buildSliceD [.tmp 21] zt rfl rfl (.cons rfl rfl rfl<|.nil) (by decide) (by decide)) ?_;obtain ⟨hy21,h⟩:=zh h;refine ws (LR.appT (enc:=(eK .u8)) (L:=v17) (R:=[b19]) [5,18] zt underlying33 rfl rfl rfl (Src.slT (enc:=(eK .u8)) (R:=[b19]) rfl (fun _=>rfl)) (fun _=>rfl) hy21 rfl rfl)<|wa ?_;refine wN<|wR<|wm ?_;refine ws (LR.addW rfl rfl)<|wa ?_;refine wN ?_;exact ⟨((IntKind.i64.wrap (i_16 + 1)),(v17 ++ [b19])),(),h,sP⟩
  ·refine wZ ?_;exact ⟨v17,(),h,sP⟩
 ·rintro v5 _ h;refine wQ<|wR<|wm ?_;refine wa ?_;refine wN<|wX ?_;cases h;exact ⟨.inr rfl,4,rfl,.inr ⟨11,_,rfl,(by simp),rfl⟩⟩


theorem Uw (b1:List Int) (l2:List DT) (r0:List Int) (h:(ZP b1 l2).wp (· = r0)):PFun prog 116 [.d (.sl (List.map (eK .u8) b1)),.d (.sl (List.map DT.e l2))] (.d (.sl (List.map (eK .u8) r0))):=by
 refine fI (sl:=[(0,_),(1,_)]) func116 rfl ntmps116 rfl rfl ?_;intro ctx hK;refine wQ<|wR<|ws (aR 5 1 rfl)<|wN<|wQ<|wR<|ws (aR 67 2 rfl)<|wN<|wQ ?_;refine wQ<|wR<|wa ?_;refine wN ?_;refine wJ (zE h) (fun (some3:List DT) (_:Unit)=>⟨44,[(0,.d (.sl (List.map (eK .u8) b1))),(5,.d (.sl (List.map DT.e some3)))],[]⟩) (fun h=>?_) ?_
 ·refine wB ?_;refine wM (fun (⟨some28,i29⟩:List DT × Int) (_:Unit)=>⟨44,[(0,.d (.sl (List.map (eK .u8) b1))),(1,.d (.sl (List.map DT.e l2))),(5,.d (.sl (List.map DT.e some28))),(6,.d (.v (.int .i64 i29)))],[]⟩) () h (Sub.trans (Sub.frz [5] hK rfl (by first | (simp;done) | (simp;omega) | omega) (AllRow.get (.cons rfl<|.nil)))<|sP) ?_;rintro N ⟨some28,i29⟩ _ h;refine wQ<|wQ<|wR<|wm ?_;refine wm ?_;refine ws (lM (enc:=DT.e) (L:=l2) underlying68 rfl)<|ws (LR.lss rfl rfl)<|wN ?_;refine xD h rfl (fun _ h=>?_) (fun _ h=>?_)
  ·refine wK<|wQ ?_;refine wJ (zE h) (fun (some31:List DT) (_:Unit)=>⟨44,[(0,.d (.sl (List.map (eK .u8) b1))),(1,.d (.sl (List.map DT.e l2))),(5,.d (.sl (List.map DT.e some31))),(6,.d (.v (.int .i64 i29)))],[]⟩) (fun h=>?_) ?_
   ·refine wB<|wQ<|wR<|wm ?_;refine wm ?_;obtain ⟨x32,hy33,h⟩:=zj h;refine ws (iX (enc:=DT.e) (L:=l2) (y:=x32) underlying68 sizeOf67 rfl rfl hy33 (fun _=>rfl))<|ws (lE (ys:=[_,_]) isAgg67 sizeOf67 rfl rfl rfl) ?_;obtain ⟨v34,hy35,h⟩:=zI h;refine xN (vw x32 v34 hy35) call107<|wN ?_;refine xD h rfl (fun _ h=>?_) (fun _ h=>?_)
    ·refine wR<|wm ?_;refine wm ?_;refine wm ?_;obtain ⟨x37,hy38,h⟩:=zj h;refine ws (iX (enc:=DT.e) (L:=l2) (y:=x37) underlying68 sizeOf67 rfl rfl hy38 (fun _=>rfl))<|ws (lE (ys:=[_,_]) isAgg67 sizeOf67 rfl rfl rfl) ?_;obtain ⟨v39,hy40,h⟩:=zI h;refine ws (LR.rowN (vZ some28 x37 v39 hy40) rfl call113 rfl rfl rfl rfl)<|wa ?_;refine wN ?_;exact ⟨v39,(),h,Sub.trans (Sub.frz [5,25] hK rfl (by simp) (AllRow.get (.cons rfl<|.cons rfl<|.nil)))<|sP⟩
    ·refine wK ?_;exact ⟨some28,(),h,sP⟩
   ·rintro some31 _ h;refine wR<|wm ?_;refine ws (LR.addW rfl rfl)<|wa ?_;refine wN ?_;exact ⟨(some31,(IntKind.i64.wrap (i29 + 1))),(),h,sP⟩
  ·refine wZ ?_;exact ⟨some28,(),h,sP⟩
 ·rintro some3 _ h;refine wQ<|wR<|wm ?_;refine wm ?_;refine ws (lM (enc:=DT.e) (L:=some3) underlying68 rfl) ?_;refine ws (LR.convInt underlying22 (by rw [underlying3];rfl) rfl rfl) ?_;obtain ⟨v41,hy42,h⟩:=zI h;refine ws (LR.rowN (za b1 (IntKind.u64.wrap (some3.length:Int)) v41 hy42) rfl call46 rfl rfl rfl rfl)<|wa ?_;refine wN<|wQ<|wQ<|wR<|wa ?_;refine wN ?_;refine wJ (zE h) (fun (out43:List Int) (_:Unit)=>⟨44,[(7,.d (.sl (List.map (eK .u8) out43)))],[]⟩) (fun h=>?_) ?_
  ·refine wB<|wM (fun (⟨out56,i57⟩:List Int × Int) (_:Unit)=>⟨44,[(5,.d (.sl (List.map DT.e some3))),(7,.d (.sl (List.map (eK .u8) out56))),(8,.d (.v (.int .i64 i57)))],[]⟩) () h (Sub.trans (Sub.frz [7,30] hK rfl (by simp) (AllRow.get (.cons rfl<|.cons rfl<|.nil)))<|sP) ?_;rintro N ⟨out56,i57⟩ _ h;refine wQ<|wQ<|wR<|wm ?_;refine wm ?_;refine ws (lM (enc:=DT.e) (L:=some3) underlying68 rfl)<|ws (LR.lss rfl rfl)<|wN ?_;refine xD h rfl (fun _ h=>?_) (fun _ h=>?_)
   ·refine wK<|wQ<|wB<|wR<|wm ?_;refine wm ?_;refine wm ?_;obtain ⟨x59,hy60,h⟩:=zj h;refine ws (iX (enc:=DT.e) (L:=some3) (y:=x59) underlying68 sizeOf67 rfl rfl hy60 (fun _=>rfl))<|ws (lE (ys:=[_,_]) isAgg67 sizeOf67 rfl rfl rfl) ?_;obtain ⟨v61,hy62,h⟩:=zI h;refine ws (LR.rowN (Xr out56 x59 v61 hy62) rfl call114 rfl rfl rfl rfl)<|wa ?_;refine wN<|wR<|wm ?_;refine ws (LR.addW rfl rfl)<|wa ?_;refine wN ?_;exact ⟨(v61,(IntKind.i64.wrap (i57 + 1))),(),h,Sub.trans (Sub.frz [7,42] hK rfl (by simp) (AllRow.get (.cons rfl<|.cons rfl<|.nil)))<|sP⟩
   ·refine wZ ?_;exact ⟨out56,(),h,sP⟩
  ·rintro out43 _ h;refine wQ<|wR<|wm ?_;refine wa ?_;refine wN<|wX ?_;cases h;exact xT

theorem yva (b1:List Int) (e2:EV) (r0:List Int) (h:(jz b1 e2).wp (· = r0)):PFun prog 81 [.d (.sl (List.map (eK .u8) b1)),.agg (List.map .d (EV.e e2))] (.d (.sl (List.map (eK .u8) r0))):=by
 refine fI (sl:=[(0,_),(1,_)]) func81 rfl ntmps81 rfl rfl ?_;intro ctx hK;refine wQ<|wR<|ws (LR.box rfl rfl rfl rfl)<|ws (aR 5 1 rfl)<|wN<|wQ<|wz (tl:=[(0,_),(3,_)]) (to:=[(3,_)]) ?_;refine PWc.regionE [{ws:=[6]},⟨[7],[],[],[],[],[3],[],[]⟩,⟨[8],[],[3],[],[],[],[],[]⟩,⟨[9],[9],[],[9],[],[9],[],[]⟩,⟨[10],[],[],[],[],[3],[],[]⟩,⟨[11],[],[3],[],[],[],[],[]⟩,{ws:=[12]},⟨[9,13],[9],[9],[],[(9,[9])],[9],[],[]⟩,⟨[5],[],[],[],[],[9],[],[]⟩] (by kernel_rfl) (by kernel_rfl) rfl<|km ?_;refine kp (fun _ U W=>fR underlying70 rfl sizeOf67 (by decide) rfl U) ?_;refine kp (fun _ U W=>lA (ps:=[_,_]) isAgg67 sizeOf67 U (W rfl rfl) rfl rfl) ?_;obtain ⟨v3,hy4,h⟩:=zI h;refine PQe.stepN (fun _ U W hf=>LR.rowN (Xr b1 e2.dot v3 hy4) (U rfl rfl) call114 (xt U rfl rfl) rfl rfl hf) rfl (.inl rfl) rfl ?_;refine kp (fun _ U W=>fR underlying70 rfl sizeOf5 (by decide) rfl U) ?_;refine kp (fun _ U W=>lD isAgg5 U (W rfl rfl) rfl) ?_;refine kp (fun _ U W=>LR.buildSliceD [.tmp 11] zt rfl rfl (.cons U rfl rfl<|.nil) (by decide) (by decide)) ?_;obtain ⟨hy5,h⟩:=zh h;refine PQe.stepA [9] (fun _ U W ha=>LR.appT (enc:=(eK .u8)) (L:=v3) (R:=[e2.kind]) [9] zt underlying33 (U rfl rfl) rfl (W rfl rfl) (Src.slT (enc:=(eK .u8)) (R:=[e2.kind]) (U rfl rfl) (fun _=>rfl)) (fun _=>rfl) hy5 rfl ha) rfl (.inl rfl) rfl ?_;refine kp (fun _ U W=>aS U)<|PQe.nil<|wQ<|wR<|wm ?_;refine ws (fR underlying70 rfl sizeOf22 (by decide) rfl rfl)<|ws (lD isAgg22 rfl rfl rfl) ?_;obtain ⟨v6,hy7,h⟩:=zI h;refine PWl.frz [5,13,14] hK (.cons rfl<|.cons rfl<|.cons rfl<|.nil) rfl (by simp) ?_;refine ws (LR.rowN (za (v3 ++ [e2.kind]) e2.cid v6 hy7) rfl call46 rfl rfl rfl rfl)<|wa ?_;refine wN<|wQ<|wR<|wm ?_;refine ws (fR underlying70 rfl sizeOf5 (by decide) rfl rfl)<|ws (lD isAgg5 rfl rfl rfl)<|ws (LR.buildSliceD [.tmp 20] zt rfl rfl (.cons rfl rfl rfl<|.nil) (by decide) (by decide)) ?_;obtain ⟨hy8,h⟩:=zh h;refine ws (LR.appT (enc:=(eK .u8)) (L:=v6) (R:=[e2.field]) [5,17,18] zt underlying33 rfl rfl rfl (Src.slT (enc:=(eK .u8)) (R:=[e2.field]) rfl (fun _=>rfl)) (fun _=>rfl) hy8 rfl rfl)<|wy (tl:=[(3,_),(22,_)]) (to:=[(3,_),(17,_)]) ?_;refine wa ?_;refine wN<|wQ<|wR<|wm ?_;refine ws (fR underlying70 rfl sizeOf9 (by decide) rfl rfl)<|ws (lD isAgg9 rfl rfl rfl) ?_;obtain ⟨v9,hy10,h⟩:=zI h;refine PWl.frz [5,22,23] hK (.cons rfl<|.cons rfl<|.cons rfl<|.nil) rfl (by simp) ?_;refine ws (LR.rowN (zEa (v6 ++ [e2.field]) e2.text v9 hy10) rfl call115 rfl rfl rfl rfl)<|wa ?_;refine wN<|wQ<|wR<|wm ?_;refine ws (fR underlying70 rfl sizeOf68 (by decide) rfl rfl)<|ws (lD isAgg68 rfl rfl rfl) ?_;obtain ⟨v11,hy12,h⟩:=zI h;refine PWl.frz [5,26,27] hK (.cons rfl<|.cons rfl<|.cons rfl<|.nil) rfl (by simp) ?_;refine xN (Uw v9 e2.kills v11 hy12) call116<|wa ?_;refine wN<|wX ?_;cases h;exact xT

theorem Xs (b1:List Int) (l2:List EV) (r0:List Int) (h:(vY b1 l2).wp (· = r0)):PFun prog 49 [.d (.sl (List.map (eK .u8) b1)),.d (.sl (List.map EV.e l2))] (.d (.sl (List.map (eK .u8) r0))):=by
 refine fI (sl:=[(0,_),(1,_)]) func49 rfl ntmps49 rfl rfl ?_;intro ctx hK;refine wQ<|wR<|ws (aR 5 1 rfl)<|wN<|wQ<|wR<|wm ?_;refine wm ?_;refine ws (lM (enc:=EV.e) (L:=l2) underlying26 rfl) ?_;refine ws (LR.convInt underlying22 (by rw [underlying3];rfl) rfl rfl) ?_;obtain ⟨v3,hy4,h⟩:=zI h;refine ws (LR.rowN (za b1 (IntKind.u64.wrap (l2.length:Int)) v3 hy4) rfl call46 rfl rfl rfl rfl)<|wa ?_;refine wN<|wQ<|wQ<|wR<|wa ?_;refine wN ?_;refine wJ (zE h) (fun (out5:List Int) (_:Unit)=>⟨25,[(5,.d (.sl (List.map (eK .u8) out5)))],[]⟩) (fun h=>?_) ?_
 ·refine wB<|wM (fun (⟨out18,i19⟩:List Int × Int) (_:Unit)=>⟨25,[(1,.d (.sl (List.map EV.e l2))),(5,.d (.sl (List.map (eK .u8) out18))),(6,.d (.v (.int .i64 i19)))],[]⟩) () h (Sub.trans (Sub.frz [5,11] hK rfl (by simp) (AllRow.get (.cons rfl<|.cons rfl<|.nil)))<|sP) ?_;rintro N ⟨out18,i19⟩ _ h;refine wQ<|wQ<|wR<|wm ?_;refine wm ?_;refine ws (lM (enc:=EV.e) (L:=l2) underlying26 rfl)<|ws (LR.lss rfl rfl)<|wN ?_;refine xD h rfl (fun _ h=>?_) (fun _ h=>?_)
  ·refine wK<|wQ<|wB<|wR<|wm ?_;refine wm ?_;refine wm ?_;obtain ⟨x21,hy22,h⟩:=zj h;refine ws (iX (enc:=EV.e) (L:=l2) (y:=x21) underlying26 sizeOf70 rfl rfl hy22 (fun _=>rfl))<|ws (lE (ys:=[_,_,_,_,_,_,_]) isAgg70 sizeOf70 rfl rfl rfl) ?_;obtain ⟨v23,hy24,h⟩:=zI h;refine xN (yva out18 x21 v23 hy24) call81<|wa ?_;refine wN<|wR<|wm ?_;refine ws (LR.addW rfl rfl)<|wa ?_;refine wN ?_;exact ⟨(v23,(IntKind.i64.wrap (i19 + 1))),(),h,sP⟩
  ·refine wZ ?_;exact ⟨out18,(),h,sP⟩
 ·rintro out5 _ h;refine wQ<|wR<|wm ?_;refine wa ?_;refine wN<|wX ?_;cases h;exact xT

theorem UK (b1:List Int) (d2:DL) (r0:List Int) (h:(wj b1 d2).wp (· = r0)):PFun prog 48 [.d (.sl (List.map (eK .u8) b1)),.agg (List.map .d (DL.e d2))] (.d (.sl (List.map (eK .u8) r0))):=by
 refine fI (sl:=[(0,_),(1,_)]) func48 rfl ntmps48 rfl rfl ?_;intro ctx hK;refine wQ<|wR<|ws (LR.box rfl rfl rfl rfl)<|ws (aR 5 1 rfl)<|wN<|wQ<|wD (by kernel_rfl) (by kernel_rfl)<|qm ?_;refine qs (fun _ U W=>fR underlying28 rfl sizeOf25 (by decide) rfl U) ?_;refine qs (fun _ U W=>lD isAgg25 U (W rfl) rfl) ?_;obtain ⟨v3,hy4,h⟩:=zI h;refine qs (fun _ U W=>cN (vP b1 d2.from_ v3 hy4) U call47 (xt (fun a b=>U a b) rfl rfl) rfl rfl rfl) ?_;refine qs (fun _ U W=>fR underlying28 rfl sizeOf25 (by decide) rfl U) ?_;refine qs (fun _ U W=>lD isAgg25 U (W rfl) rfl) ?_;obtain ⟨v5,hy6,h⟩:=zI h;refine qs (fun _ U W=>cN (vP v3 d2.to_ v5 hy6) U call47 (xt (fun a b=>U a b) rfl rfl) rfl rfl rfl) ?_;refine qs (fun _ U W=>fR underlying28 rfl sizeOf26 (by decide) rfl U) ?_;refine qs (fun _ U W=>lD isAgg26 U (W rfl) rfl) ?_;obtain ⟨v7,hy8,h⟩:=zI h;refine qs (fun _ U W=>cN (Xs v5 d2.events v7 hy8) U call49 (xt (fun a b=>U a b) rfl rfl) rfl rfl rfl) ?_;refine qs (fun _ U W=>aS U)<|qN<|wX ?_;cases h;exact xT

theorem zFa (m1:TMsg) (r0:List Int) (h:(VU m1).wp (· = r0)):PFun prog 21 [.agg (List.map .d (TMsg.e m1))] (.d (.sl (List.map (eK .u8) r0))):=by
 refine fI (sl:=[(0,_)]) func21 rfl ntmps21 rfl rfl ?_;intro ctx hK;refine wQ<|wR<|ws (LR.box rfl rfl rfl rfl)<|ws (aR 5 1 rfl)<|wN<|wQ<|wR<|ws (aR 5 1 rfl)<|wN ?_;refine wQ<|wQ<|wR<|ws (fR underlying30 rfl sizeOf5 (by decide) rfl rfl)<|ws (lD isAgg5 rfl rfl rfl)<|ws (LR.leq rfl rfl)<|wN ?_;refine wJ (zE h) (fun (v2:List Int) (_:Unit)=>⟨80,[(1,.ref 1 0),(3,.row 15 (v2.length))],[(1,.cells 30 [.d (.v (.int .u8 m1.kind)),.d (.v (.int .u8 m1.slot)),.d (.v (.int .u64 m1.try_)),.d (.v (.int .u16 m1.dev)),.d (.v (.int .u64 m1.epoch)),.d (.v (.int .u8 m1.why)),.d (.sl (List.map PT.e m1.have_)),.d (.sl (List.map PT.e m1.front)),.d (.sl (List.map PT.e m1.delta.from_)),.d (.sl (List.map PT.e m1.delta.to_)),.d (.sl (List.map EV.e m1.delta.events))]),(15,.row 5 1 (List.map (eK .u8) v2))]⟩) (fun h=>?_) ?_
 ·refine xD h rfl (fun _ h=>?_) (fun _ h=>?_)
  ·refine wQ<|wR<|wm ?_;refine ws (fR underlying30 rfl sizeOf5 (by decide) rfl rfl)<|ws (lD isAgg5 rfl rfl rfl)<|ws (LR.buildSliceD [.tmp 9] zt rfl rfl (.cons rfl rfl rfl<|.nil) (by decide) (by decide)) ?_;obtain ⟨hy4,h⟩:=zh h;refine ws (LR.appT (enc:=(eK .u8)) (L:=([]:List Int)) (R:=[m1.slot]) [3,7] zt underlying33 rfl (by first | (simp;done) | (simp;omega) | omega) rfl (Src.slT (enc:=(eK .u8)) (R:=[m1.slot]) rfl (fun _=>rfl)) (fun _=>rfl) hy4 rfl rfl) ?_;refine wa ?_;refine wN<|wR<|wm ?_;refine ws (fR underlying30 rfl sizeOf22 (by decide) rfl rfl)<|ws (lD isAgg22 rfl rfl rfl) ?_;obtain ⟨v5,hy6,h⟩:=zI h;refine PWl.frz [3,11,12] hK (.cons rfl<|.cons rfl<|.cons rfl<|.nil) rfl (by simp) ?_;refine ws (LR.rowN (za (([]:List Int) ++ [m1.slot]) m1.try_ v5 hy6) rfl call46 rfl rfl rfl rfl)<|wa ?_;refine wN ?_;exact ⟨v5,(),h,sP⟩
  ·refine wK ?_;exact ⟨([]:List Int),(),h,Sub.rnm [(15,3)] rfl (by repeat' first | constructor | (congr 1;first | (simp;done) | (simp;omega) | omega)) (by repeat' first | constructor | (congr 1;first | (simp;done) | (simp;omega) | omega)) rfl⟩
 ·rintro v2 _ h;refine wQ<|wQ<|wR<|ws (fR underlying30 rfl sizeOf5 (by decide) rfl rfl)<|ws (lD isAgg5 rfl rfl rfl)<|ws (LR.geq rfl rfl)<|wN ?_;refine wJ (zE h) (fun (v7:List Int) (_:Unit)=>⟨80,[(1,.ref 1 0),(3,.row 26 (v7.length))],[(1,.cells 30 [.d (.v (.int .u8 m1.kind)),.d (.v (.int .u8 m1.slot)),.d (.v (.int .u64 m1.try_)),.d (.v (.int .u16 m1.dev)),.d (.v (.int .u64 m1.epoch)),.d (.v (.int .u8 m1.why)),.d (.sl (List.map PT.e m1.have_)),.d (.sl (List.map PT.e m1.front)),.d (.sl (List.map PT.e m1.delta.from_)),.d (.sl (List.map PT.e m1.delta.to_)),.d (.sl (List.map EV.e m1.delta.events))]),(26,.row 5 1 (List.map (eK .u8) v7))]⟩) (fun h=>?_) ?_
  ·refine xD h rfl (fun _ h=>?_) (fun _ h=>?_)
   ·refine wz (tl:=[(1,_),(3,_)]) (to:=[(1,_),(15,_)]) ?_;refine PWc.frz [3] hK (.cons rfl<|.nil) rfl (by simp) ?_;refine PWc.regionE [{ws:=[19]},⟨[20],[],[],[],[],[1],[],[]⟩,⟨[21],[],[1],[],[],[],[],[]⟩,{ws:=[22]},{ws:=[23]},⟨[24],[],[],[],[],[1],[],[]⟩,⟨[25],[],[1],[],[],[],[],[]⟩,⟨[26],[26],[],[26],[],[26],[],[]⟩,⟨[3],[],[],[],[],[26],[],[]⟩] (by kernel_rfl) (by kernel_rfl) rfl<|km ?_;refine kp (fun _ U W=>fR underlying30 rfl sizeOf23 (by decide) rfl U) ?_;refine kp (fun _ U W=>lD isAgg23 U (W rfl rfl) rfl) ?_;refine kp (fun _ U W=>LR.convInt underlying22 (by rw [underlying23];rfl) U rfl) ?_;obtain ⟨v9,hy10,h⟩:=zI h;refine kp (fun _ U W=>cN (PRow.fun (za v2 (IntKind.u64.wrap m1.dev) v9 hy10)) U call46 (xt (fun a b=>U a b) rfl rfl) rfl rfl rfl) ?_;refine kp (fun _ U W=>fR underlying30 rfl sizeOf22 (by decide) rfl U) ?_;refine kp (fun _ U W=>lD isAgg22 U (W rfl rfl) rfl) ?_;obtain ⟨v11,hy12,h⟩:=zI h;refine PQe.stepN (fun _ U W hf=>LR.rowN (za v9 m1.epoch v11 hy12) (U rfl rfl) call46 (xt U rfl rfl) rfl rfl hf) rfl (.inl rfl) rfl ?_;refine kp (fun _ U W=>aS U)<|PQe.nil ?_;exact ⟨v11,(),h,sP⟩
   ·refine wK ?_;exact ⟨v2,(),h,Sub.rnm [(26,15)] rfl (by repeat' first | constructor | (congr 1;first | (simp;done) | (simp;omega) | omega)) (by repeat' first | constructor | (congr 1;first | (simp;done) | (simp;omega) | omega)) rfl⟩
  ·rintro v7 _ h;refine wQ<|wQ<|wR<|ws (fR underlying30 rfl sizeOf5 (by decide) rfl rfl)<|ws (lD isAgg5 rfl rfl rfl)<|ws (eQ rfl rfl)<|wN ?_;refine wJ (zE h) (fun (v13:List Int) (_:Unit)=>⟨80,[(1,.ref 1 0),(3,.row 26 (v13.length))],[(1,.cells 30 [.d (.v (.int .u8 m1.kind)),.d (.v (.int .u8 m1.slot)),.d (.v (.int .u64 m1.try_)),.d (.v (.int .u16 m1.dev)),.d (.v (.int .u64 m1.epoch)),.d (.v (.int .u8 m1.why)),.d (.sl (List.map PT.e m1.have_)),.d (.sl (List.map PT.e m1.front)),.d (.sl (List.map PT.e m1.delta.from_)),.d (.sl (List.map PT.e m1.delta.to_)),.d (.sl (List.map EV.e m1.delta.events))]),(26,.row 5 1 (List.map (eK .u8) v13))]⟩) (fun h=>?_) ?_
   ·refine xD h rfl (fun _ h=>?_) (fun _ h=>?_)
    ·refine wR<|wm ?_;refine ws (fR underlying30 rfl sizeOf5 (by decide) rfl rfl)<|ws (lD isAgg5 rfl rfl rfl)<|ws (LR.buildSliceD [.tmp 32] zt rfl rfl (.cons rfl rfl rfl<|.nil) (by decide) (by decide)) ?_;obtain ⟨hy15,h⟩:=zh h;refine ws (LR.appT (enc:=(eK .u8)) (L:=v7) (R:=[m1.why]) [3,30] zt underlying33 rfl rfl rfl (Src.slT (enc:=(eK .u8)) (R:=[m1.why]) rfl (fun _=>rfl)) (fun _=>rfl) hy15 rfl rfl)<|wa ?_;refine wN ?_;exact ⟨(v7 ++ [m1.why]),(),h,sP⟩
    ·refine wK ?_;exact ⟨v7,(),h,sP⟩
   ·rintro v13 _ h;refine wQ<|wQ ?_;refine wJ (zE h) (fun (v16:Bool) (_:Unit)=>⟨80,[(1,.ref 1 0),(3,.row 26 (v13.length)),(47,.d (.v (.bool v16)))],[(1,.cells 30 [.d (.v (.int .u8 m1.kind)),.d (.v (.int .u8 m1.slot)),.d (.v (.int .u64 m1.try_)),.d (.v (.int .u16 m1.dev)),.d (.v (.int .u64 m1.epoch)),.d (.v (.int .u8 m1.why)),.d (.sl (List.map PT.e m1.have_)),.d (.sl (List.map PT.e m1.front)),.d (.sl (List.map PT.e m1.delta.from_)),.d (.sl (List.map PT.e m1.delta.to_)),.d (.sl (List.map EV.e m1.delta.events))]),(26,.row 5 1 (List.map (eK .u8) v13))]⟩) (fun h=>?_) ?_
    ·refine wR<|ws (fR underlying30 rfl sizeOf5 (by decide) rfl rfl)<|ws (lD isAgg5 rfl rfl rfl)<|ws (eQ rfl rfl)<|wm ?_;refine xG (d:=38) h rfl (fun _ h=>?_) (fun _ h=>?_)
     ·refine wf<|wf<|wf<|wf<|wu<|wu<|wu<|wf<|ws (pT rfl rfl) ?_;refine wN ?_;exact ⟨true,(),h,sP⟩
     ·refine wt (fR underlying30 rfl sizeOf5 (by decide) rfl rfl)<|wt (lD isAgg5 rfl rfl rfl)<|wt (LR.geq rfl rfl)<|wt (mV rfl) ?_;refine xG (d:=42) h rfl (fun _ h=>?_) (fun _ h=>?_)
      ·refine wt (fR underlying30 rfl sizeOf5 (by decide) rfl rfl)<|wt (lD isAgg5 rfl rfl rfl)<|wt (LR.leq rfl rfl)<|wt (pT rfl rfl)<|ws (pF rfl rfl)<|wN ?_;exact ⟨(decide (m1.kind <= 7)),(),h,sP⟩
      ·refine wf<|wf<|wf<|wt (pF rfl rfl)<|ws (pF rfl rfl)<|wN ?_;exact ⟨false,(),h,sP⟩
    ·rintro v16 _ h;refine wJ (zE h) (fun (b19:List Int) (_:Unit)=>⟨80,[(1,.ref 1 0),(3,.d (.sl (List.map (eK .u8) b19)))],[(1,.cells 30 [.d (.v (.int .u8 m1.kind)),.d (.v (.int .u8 m1.slot)),.d (.v (.int .u64 m1.try_)),.d (.v (.int .u16 m1.dev)),.d (.v (.int .u64 m1.epoch)),.d (.v (.int .u8 m1.why)),.d (.sl (List.map PT.e m1.have_)),.d (.sl (List.map PT.e m1.front)),.d (.sl (List.map PT.e m1.delta.from_)),.d (.sl (List.map PT.e m1.delta.to_)),.d (.sl (List.map EV.e m1.delta.events))])]⟩) (fun h=>?_) ?_
     ·refine xD h rfl (fun _ h=>?_) (fun _ h=>?_)
      ·refine wR<|wm ?_;refine ws (fR underlying30 rfl sizeOf25 (by decide) rfl rfl)<|ws (lD isAgg25 rfl rfl rfl) ?_;obtain ⟨v21,hy22,h⟩:=zI h;refine PWl.frz [3,48] hK (.cons rfl<|.cons rfl<|.nil) rfl (by simp) ?_;refine xN (vP v13 m1.have_ v21 hy22) call47<|wa ?_;refine wN ?_;exact ⟨v21,(),h,sP⟩
      ·refine wK ?_;exact ⟨v13,(),h,Sub.trans (Sub.frz [3] hK rfl (by simp) (AllRow.get (.cons rfl<|.nil)))<|sP⟩
     ·rintro b19 _ h;refine wQ<|wQ ?_;refine wJ (zE h) (fun (v23:Bool) (_:Unit)=>⟨80,[(1,.ref 1 0),(3,.d (.sl (List.map (eK .u8) b19))),(59,.d (.v (.bool v23)))],[(1,.cells 30 [.d (.v (.int .u8 m1.kind)),.d (.v (.int .u8 m1.slot)),.d (.v (.int .u64 m1.try_)),.d (.v (.int .u16 m1.dev)),.d (.v (.int .u64 m1.epoch)),.d (.v (.int .u8 m1.why)),.d (.sl (List.map PT.e m1.have_)),.d (.sl (List.map PT.e m1.front)),.d (.sl (List.map PT.e m1.delta.from_)),.d (.sl (List.map PT.e m1.delta.to_)),.d (.sl (List.map EV.e m1.delta.events))])]⟩) (fun h=>?_) ?_
      ·refine wR<|ws (fR underlying30 rfl sizeOf5 (by decide) rfl rfl)<|ws (lD isAgg5 rfl rfl rfl)<|ws (eQ rfl rfl)<|wm ?_;refine xG (d:=55) h rfl (fun _ h=>?_) (fun _ h=>?_)
       ·refine wf<|wf<|wf<|ws (pT rfl rfl)<|wN ?_;exact ⟨true,(),h,sP⟩
       ·refine wt (fR underlying30 rfl sizeOf5 (by decide) rfl rfl)<|wt (lD isAgg5 rfl rfl rfl)<|wt (eQ rfl rfl)<|ws (pF rfl rfl)<|wN ?_;exact ⟨(decide (m1.kind = 4)),(),h,sP⟩
      ·rintro v23 _ h;refine wJ (zE h) (fun (b25:List Int) (_:Unit)=>⟨80,[(1,.ref 1 0),(3,.d (.sl (List.map (eK .u8) b25)))],[(1,.cells 30 [.d (.v (.int .u8 m1.kind)),.d (.v (.int .u8 m1.slot)),.d (.v (.int .u64 m1.try_)),.d (.v (.int .u16 m1.dev)),.d (.v (.int .u64 m1.epoch)),.d (.v (.int .u8 m1.why)),.d (.sl (List.map PT.e m1.have_)),.d (.sl (List.map PT.e m1.front)),.d (.sl (List.map PT.e m1.delta.from_)),.d (.sl (List.map PT.e m1.delta.to_)),.d (.sl (List.map EV.e m1.delta.events))])]⟩) (fun h=>?_) ?_
       ·refine xD h rfl (fun _ h=>?_) (fun _ h=>?_)
        ·refine wR<|wm ?_;refine ws (fR underlying30 rfl sizeOf28 (by decide) rfl rfl)<|ws (lA (ps:=[_,_,_]) isAgg28 sizeOf28 rfl rfl rfl rfl) ?_;obtain ⟨v27,hy28,h⟩:=zI h;refine xN (UK b19 m1.delta v27 hy28) call48<|wa ?_;refine wN ?_;exact ⟨v27,(),h,sP⟩
        ·refine wK ?_;exact ⟨b19,(),h,sP⟩
       ·rintro b25 _ h;refine wQ<|wQ<|wR<|ws (fR underlying30 rfl sizeOf5 (by decide) rfl rfl)<|ws (lD isAgg5 rfl rfl rfl)<|ws (eQ rfl rfl)<|wN ?_;refine wJ (zE h) (fun (b29:List Int) (_:Unit)=>⟨80,[(1,.ref 1 0),(3,.d (.sl (List.map (eK .u8) b29)))],[(1,.cells 30 [.d (.v (.int .u8 m1.kind)),.d (.v (.int .u8 m1.slot)),.d (.v (.int .u64 m1.try_)),.d (.v (.int .u16 m1.dev)),.d (.v (.int .u64 m1.epoch)),.d (.v (.int .u8 m1.why)),.d (.sl (List.map PT.e m1.have_)),.d (.sl (List.map PT.e m1.front)),.d (.sl (List.map PT.e m1.delta.from_)),.d (.sl (List.map PT.e m1.delta.to_)),.d (.sl (List.map EV.e m1.delta.events))])]⟩) (fun h=>?_) ?_
        ·refine xD h rfl (fun _ h=>?_) (fun _ h=>?_)
         ·refine wR<|wm ?_;refine ws (fR underlying30 rfl sizeOf28 (by decide) rfl rfl)<|ws (fR underlying28 rfl sizeOf26 (by decide) rfl rfl)<|ws (lD isAgg26 rfl rfl rfl) ?_;obtain ⟨v31,hy32,h⟩:=zI h;refine xN (Xs b25 m1.delta.events v31 hy32) call49<|wa ?_;refine wN ?_;exact ⟨v31,(),h,sP⟩
         ·refine wK ?_;exact ⟨b25,(),h,sP⟩
        ·rintro b29 _ h;refine wQ<|wQ<|wR<|ws (fR underlying30 rfl sizeOf5 (by decide) rfl rfl)<|ws (lD isAgg5 rfl rfl rfl)<|ws (eQ rfl rfl)<|wN ?_;refine wJ (zE h) (fun (b33:List Int) (_:Unit)=>⟨80,[(3,.d (.sl (List.map (eK .u8) b33)))],[]⟩) (fun h=>?_) ?_
         ·refine xD h rfl (fun _ h=>?_) (fun _ h=>?_)
          ·refine wR<|wm ?_;refine ws (fR underlying30 rfl sizeOf25 (by decide) rfl rfl)<|ws (lD isAgg25 rfl rfl rfl) ?_;obtain ⟨v35,hy36,h⟩:=zI h;refine xN (vP b29 m1.front v35 hy36) call47<|wa ?_;refine wN ?_;exact ⟨v35,(),h,sP⟩
          ·refine wK ?_;exact ⟨b29,(),h,sP⟩
         ·rintro b33 _ h;refine wQ<|wR<|wm ?_;refine wa ?_;refine wN<|wX ?_;cases h;exact xT


theorem JW (m1:TMsg) (r0:List Int × Int) (h:(ui m1).wp (· = r0)):PFun prog 7 [.agg (List.map .d (TMsg.e m1))] (.tup [.d (.sl (List.map (eK .u8) r0.1)),.d (.v (.int .i64 r0.2))]):=by
 refine fI (sl:=[(0,_)]) func7 rfl ntmps7 rfl rfl ?_;intro ctx hK;refine wQ<|wR<|ws (LR.box rfl rfl rfl rfl)<|ws (aR 5 1 rfl)<|wa ?_;refine wN<|wQ<|wQ<|wR<|ws (lA (ps:=[_,_,_,_,_,_,_,_,_,_,_]) isAgg30 sizeOf30 rfl rfl rfl rfl) ?_;obtain ⟨v2,hy3,h⟩:=zI h;refine xN (Qz m1 v2 hy3) call19<|ws (LR.not rfl)<|wN ?_;refine xD h rfl (fun _ h=>?_) (fun _ h=>?_)
 ·refine wQ<|wR<|wy (tl:=[(0,_),(1,_),(3,_),(4,_),(5,_),(6,_)]) (to:=[(1,_)]) ?_;refine ws (aR 5 1 rfl)<|wa ?_;refine wN<|wX ?_;cases h;exact ⟨.inr rfl,_,.cons (.row rfl rfl (by first | (simp;done) | (simp;omega) | omega))<|.cons (.tmp rfl rfl)<|.nil,rfl⟩
 ·refine wK<|wQ<|wz (tl:=[(1,_)]) (to:=[(1,_)]) ?_;refine PWc.regionE [⟨[7],[],[],[],[],[1],[],[]⟩,⟨[8],[],[1],[],[],[],[],[]⟩,⟨[9],[],[1],[],[],[],[],[]⟩,{ws:=[10]},⟨[11],[11],[],[11],[],[11],[],[]⟩,⟨[2],[],[],[],[],[11],[],[]⟩,{ws:=[3]}] (by kernel_rfl) (by kernel_rfl) rfl ?_;refine kp (fun _ U W=>fR underlying30 rfl sizeOf5 (by decide) rfl U) ?_;refine kp (fun _ U W=>lD isAgg5 U (W rfl rfl) rfl) ?_;refine kp (fun _ U W=>lA (ps:=[_,_,_,_,_,_,_,_,_,_,_]) isAgg30 sizeOf30 U (W rfl rfl) rfl rfl) ?_;obtain ⟨v5,hy6,h⟩:=zI h;refine kp (fun _ U W=>cN (zFa m1 v5 hy6) U call21 (xt (fun a b=>U a b) rfl rfl) rfl rfl rfl) ?_;obtain ⟨v7,hy8,h⟩:=zI h;refine PQe.stepN (fun _ U W hf=>LR.rowN (zCa m1.kind v5 v7 hy8) (U rfl rfl) call20 (xt U rfl rfl) rfl rfl hf) rfl (.inl rfl) rfl ?_;refine kp (fun _ U W=>aS U) ?_;refine kp (fun _ U W=>aS U)<|PQe.nil<|wX ?_;cases h;exact ⟨.inr rfl,_,.cons (.row rfl rfl (by simp))<|.cons (.tmp rfl rfl)<|.nil,rfl⟩

theorem Xt (m1:TMsg) (r0:Bool) (h:(xn m1).wp (· = r0)):PFunL (Tab 0 .u32 tabG) prog 3 [.agg (List.map .d (TMsg.e m1))] (.d (.v (.bool r0))):=by
 refine PFunL.intro (sl:=[(0,_)]) func3 rfl ntmps3 rfl rfl ?_;intro ctx hK hT;refine wQ<|wR<|ws (LR.box rfl rfl rfl rfl)<|wa ?_;refine wN<|wQ<|wQ<|wR<|ws (lA (ps:=[_,_,_,_,_,_,_,_,_,_,_]) isAgg30 sizeOf30 rfl rfl rfl rfl) ?_;obtain ⟨v2,hy3,h⟩:=zI h;refine xN (ysa m1 v2 hy3) call4<|ws (LR.not rfl)<|wN ?_;refine xD h rfl (fun _ h=>?_) (fun _ h=>?_)
 ·refine wQ<|wR ?_;obtain ⟨v5,hy6,h⟩:=zI h;refine ws (LR.callL hT (Wx v5 hy6) rfl call5 rfl rfl rfl rfl)<|wa ?_;refine wN<|wX ?_;cases h;exact xT
 ·refine wK<|wQ<|wR<|ws (lA (ps:=[_,_,_,_,_,_,_,_,_,_,_]) isAgg30 sizeOf30 rfl rfl rfl rfl) ?_;obtain ⟨v7,hy8,h⟩:=zI h;refine ws (LR.callL hT (Zy m1 v7 hy8) rfl call6 rfl rfl rfl rfl)<|wm ?_;refine ws (LR.extract rfl rfl)<|ws (LR.extract rfl rfl)<|wa ?_;refine wa ?_;refine wN<|wQ<|wR<|ws (lA (ps:=[_,_,_,_,_,_,_,_,_,_,_]) isAgg30 sizeOf30 rfl rfl rfl rfl) ?_;obtain ⟨v9,hy10,h⟩:=zI h;refine xN (JW m1 v9 hy10) call7<|wm ?_;refine ws (LR.extract rfl rfl)<|ws (LR.extract rfl rfl)<|wa ?_;refine wa ?_;refine wN<|wQ ?_;refine wJ (zE h) (fun (v11:Bool) (_:Unit)=>⟨32,[(2,.d (.v (.bool v11)))],[]⟩) (fun h=>?_) ?_
  ·refine wR<|wm ?_;refine wy (tl:=[(2,_),(4,_),(5,_),(6,_),(21,_)]) (to:=[]) ?_;refine wm ?_;obtain ⟨v12,hy13,h⟩:=zI h;refine xN (Ww v7.1 v9.1 v12 hy13) call8<|wm ?_;refine xG (d:=24) h rfl (fun _ h=>?_) (fun _ h=>?_)
   ·refine wt (mV rfl)<|wt (mV rfl)<|wt (eQ rfl rfl)<|ws (pT rfl rfl)<|wm ?_;refine xG (d:=29) h rfl (fun _ h=>?_) (fun _ h=>?_)
    ·obtain ⟨v16,hy17,h⟩:=zI h;refine wt (LR.callL hT (Wx v16 hy17) rfl call5 rfl rfl rfl rfl)<|ws (pT rfl rfl)<|wa ?_;refine wN ?_;exact ⟨v16,(),h,sP⟩
    ·refine wf<|ws (pF rfl rfl)<|wa ?_;refine wN ?_;exact ⟨false,(),h,sP⟩
   ·refine wf<|wf<|wf<|ws (pF rfl rfl)<|wm ?_;refine wf<|ws (pF rfl rfl)<|wa ?_;refine wN ?_;exact ⟨false,(),h,sP⟩
  ·rintro v11 _ h;refine wX ?_;cases h;exact xT
end Go.Proofs

namespace Go.Ep
open Go

theorem Wz {n:Int} (h:-9223372036854775808 <= n) (h':n <= 9223372036854775807):IntKind.i64.wrap n = n:=by simp [IntKind.wrap,IntKind.bits,IntKind.signed];omega
theorem Xu {n:Int} (h:0 <= n) (h':n <= 18446744073709551615):IntKind.u64.wrap n = n:=by simp [IntKind.wrap,IntKind.bits,IntKind.signed];omega
theorem wU16 {n:Int} (h:0 <= n) (h':n <= 65535):IntKind.u16.wrap n = n:=by simp [IntKind.wrap,IntKind.bits,IntKind.signed];omega
theorem wU8 {n:Int} (h:0 <= n) (h':n <= 255):IntKind.u8.wrap n = n:=by simp [IntKind.wrap,IntKind.bits,IntKind.signed];omega
theorem zn {i:Nat} (h:i < 9223372036854775807):IntKind.i64.wrap ((i:Int) + 1) = ((i + 1:Nat):Int):=by rw [Wz (by omega) (by omega)];rfl
namespace M
variable {α β σ ρ τ ε:Type}
theorem xP (p:Prop) [Decidable p] (x y:M α):cond (decide p) x y = if p then x else y:=by by_cases h:p <;> simp [h]
theorem Zz {body:σ -> M (Step σ ρ)} (l:List ε) (mk:Nat -> τ -> σ) (f:τ -> ε -> τ) (g:τ -> M ρ)
  (I:Nat -> τ -> Prop) (h1:∀ (i:Nat) (x:ε) (t:τ),l[i]? = some x -> i < l.length -> I i t -> body (mk i t) = pure (.next (mk (i + 1) (f t x))) /\ I (i + 1) (f t x))
  (h2:∀ t,I l.length t -> body (mk l.length t) = (g t).bind fun r=>pure (.done r)) (t0:τ) (h0:I 0 t0):loop body (mk 0 t0) = g (l.foldl f t0):=by
 have key:∀ k i t,i + k = l.length -> I i t -> loop body (mk i t) = g ((l.drop i).foldl f t):=by
  intro k
  induction k with
  | zero=>
   intro i t hi hI;have:i = l.length:=by omega
   subst this;rw [Vn,h2 t hI,List.drop_length]
   rfl
  | succ k ih=>
   intro i t hi hI;have hlt:i < l.length:=by omega
   obtain ⟨h3,h4⟩:=h1 i l[i] t (List.getElem?_eq_getElem hlt) hlt hI;rw [zQ h3,ih (i + 1) _ (by omega) h4,List.drop_eq_getElem_cons hlt]
   rfl
 simpa using key l.length 0 t0 (by omega) h0
theorem loopF {body:σ -> M (Step σ ρ)} (l:List ε) (mk:Nat -> σ) (p:Nat -> ε -> Bool) (r:Nat -> ε -> ρ) (d:M ρ)
  (h1:∀ (i:Nat) (x:ε),l[i]? = some x -> i < l.length -> body (mk i) = if p i x then pure (.done (r i x)) else pure (.next (mk (i + 1))))
  (h2:body (mk l.length) = d.bind fun r=>pure (.done r)):loop body (mk 0) = match (l.zipIdx).find? (fun y=>p y.2 y.1) with | some y=>pure (r y.2 y.1) | none=>d:=by
 have key:∀ k i,i + k = l.length -> loop body (mk i) = match ((l.drop i).zipIdx i).find? (fun y=>p y.2 y.1) with | some y=>pure (r y.2 y.1) | none=>d:=by
  intro k
  induction k with
  | zero=>
   intro i hi;have:i = l.length:=by omega
   subst this;rw [Vn,h2,List.drop_length]
   rfl
  | succ k ih=>
   intro i hi;have hlt:i < l.length:=by omega
   have h3:=h1 i l[i] (List.getElem?_eq_getElem hlt) hlt;rw [List.drop_eq_getElem_cons hlt,List.zipIdx_cons,List.find?_cons]
   by_cases hp:p i l[i] = true
   ·rw [if_pos hp] at h3;rw [zZ h3];simp [hp]
   ·rw [if_neg hp] at h3;rw [zQ h3,ih (i + 1) (by omega)];simp [hp]
 simpa using key l.length 0 (by omega)
theorem yd {body:σ -> M (Step σ ρ)} (l:List ε) (mk:Nat -> σ) (p:Nat -> ε -> Bool) (r1 r2:ρ)
  (h1:∀ (i:Nat) (x:ε),l[i]? = some x -> i < l.length -> body (mk i) = if p i x then pure (.next (mk (i + 1))) else pure (.done r2))
  (h2:body (mk l.length) = pure (.done r1)):loop body (mk 0) = pure (if l.zipIdx.all (fun y=>p y.2 y.1) then r1 else r2):=by
 have key:∀ k i,i + k = l.length -> loop body (mk i) = pure (if ((l.drop i).zipIdx i).all (fun y=>p y.2 y.1) then r1 else r2):=by
  intro k
  induction k with
  | zero=>
   intro i hi;have:i = l.length:=by omega
   subst this;rw [zZ h2,List.drop_length]
   rfl
  | succ k ih=>
   intro i hi;have hlt:i < l.length:=by omega
   have h3:=h1 i l[i] (List.getElem?_eq_getElem hlt) hlt;rw [List.drop_eq_getElem_cons hlt,List.zipIdx_cons,List.all_cons]
   by_cases hp:p i l[i] = true
   ·rw [if_pos hp] at h3;rw [zQ h3,ih (i + 1) (by omega),hp,Bool.true_and]
   ·rw [if_neg hp] at h3;rw [zZ h3];simp [hp]
 have:=key l.length 0 (by omega);rw [List.drop_zero] at this;exact this

def came {ε:Type} (m:List ε) (L:List Nat):List ε:=L.filterMap fun i=>m[i]?
theorem x4a {m:List ε} {L:List Nat} {i:Nat} {y:ε} (h:m[i]? = some y):came m (L ++ [i]) = came m L ++ [y]:=by simp [came,h]
theorem JX {n:Nat} {L:List Nat} (hn:L.Nodup) (hb:∀ i ∈ L,i < n) (ha:∀ i,i < n -> i ∈ L):L.Perm (List.range n):=by
 refine (List.perm_ext_iff_of_nodup hn List.nodup_range).2 fun i=>?_
 rw [List.mem_range];exact ⟨hb i,ha i⟩
theorem x5a {m:List ε} {L:List Nat} (hn:L.Nodup) (hb:∀ i ∈ L,i < m.length) (ha:∀ i,i < m.length -> i ∈ L):(came m L).Perm m:=by
 have h1:=(JX hn hb ha).filterMap fun i=>m[i]?
 have h2:(List.range m.length).filterMap (fun i=>m[i]?) = m:=by
  apply List.ext_getElem?;intro i;clear h1 hn hb ha;have:(List.range m.length).filterMap (fun i=>m[i]?) = m:=by
   induction m with
   | nil=>rfl
   | cons x r ih=>
    rw [List.length_cons,List.range_succ_eq_map,List.filterMap_cons];simp only [List.getElem?_cons_zero,List.filterMap_map]
    congr 1
  rw [this]
 rw [h2] at h1;exact h1
theorem x6a {n:Nat} {L:List Nat} (hn:L.Nodup) (hb:∀ i ∈ L,i < n):L.length <= n:=by
 have:=List.Nodup.length_le_of_subset hn (l₂:=List.range n) (fun i hi=>List.mem_range.2 (hb i hi));simpa using this

theorem full {n:Nat} {L:List Nat} (hn:L.Nodup) (hb:∀ i ∈ L,i < n) (hl:n <= L.length):∀ i,i < n -> i ∈ L:=by
 intro i hi;refine Classical.byContradiction fun hni=>?_
 have:=x6a (n:=n) (L:=i :: L) (List.nodup_cons.2 ⟨hni,hn⟩) (fun j hj=>by
  rcases List.mem_cons.1 hj with rfl | hj
  ·exact hi
  ·exact hb j hj)
 simp at this;omega
theorem loopM {body:σ -> M (Step σ ρ)} (m:List ε) (mk:List Nat -> τ -> σ) (f:τ -> ε -> M τ) (g:τ -> M ρ) (I:List ε -> τ -> Prop) (Q:ρ -> Prop)
  (hb:∀ L t,(∀ i ∈ L,i < m.length) -> body (mk L t) = yY (∀ i ∈ L,i < m.length) ((nxt m.length L).bind fun o=>match o with
   | none=>(g t).bind fun r=>pure (.done r)
   | some i=>(idx m (Int.ofNat i)).bind fun y=>(f t y).bind fun t'=>pure (.next (mk (L ++ [i]) t'))))
  (hs:∀ l t y,I l t -> l.length < m.length -> y ∈ m -> ∃ t',f t y = pure t' /\ I (l ++ [y]) t') (he:∀ l t,l.Perm m -> I l t -> (g t).wp Q) (t0:τ) (h0:I [] t0):(loop body (mk [] t0)).wp Q:=by
 have key:∀ k L t,L.length + k = m.length -> L.Nodup -> (∀ i ∈ L,i < m.length) -> I (came m L) t -> Uq body Q (mk L t):=by
  intro k
  induction k with
  | zero=>
   intro L t hk hn hlt hI;refine uv ?_;rw [hb L t hlt];have hall:∀ i,i < m.length -> i ∈ L:=fun i hi=>full hn hlt (by omega) i hi
   refine ⟨hlt,⟨⟨none,hall⟩,fun o ho=>?_⟩⟩
   cases o with
   | none=>
    have:=he _ t (x5a hn hlt hall) hI;exact this
   | some i=>exact absurd (hall i ho.1) ho.2
  | succ k ih=>
   intro L t hk hn hlt hI;refine uv ?_;rw [hb L t hlt];have hex:∃ i,i < m.length /\ i ∉ L:=by
    refine Classical.byContradiction fun hno=>?_
    have hall:∀ i,i < m.length -> i ∈ L:=fun i hi=>Classical.byContradiction fun h=>hno ⟨i,hi,h⟩
    have:=(JX hn hlt hall).length_eq;simp at this;omega
   obtain ⟨i0,hi0⟩:=hex;refine ⟨hlt,⟨⟨some i0,hi0⟩,fun o ho=>?_⟩⟩
   cases o with
   | none=>exact absurd (ho i0 hi0.1) hi0.2
   | some i=>
    have hi:=List.getElem?_eq_getElem ho.1;obtain ⟨t',h1,h2⟩:=hs (came m L) t m[i] hI (by have:=List.length_filterMap_le (fun i=>m[i]?) L;unfold came;omega) (List.getElem_mem ho.1);show ((idx m (Int.ofNat i)).bind _).wp _;rw [show (Int.ofNat i) = (i:Int) from rfl,zH hi,zA,h1,zA];refine ih (L ++ [i]) t' (by simp;omega) ?_ ?_ (by rw [x4a hi];exact h2)
    ·rw [List.nodup_append];refine ⟨hn,by simp,fun a ha b hb'=>?_⟩;rw [List.mem_singleton.1 hb'];intro e;exact ho.2 (e ▸ ha)
    ·intro j hj;rcases List.mem_append.1 hj with hj | hj
     ·exact hlt j hj
     ·rw [List.mem_singleton.1 hj];exact ho.1
 exact key m.length [] t0 (by simp) List.nodup_nil (by simp) h0

theorem loopN {body:σ -> M (Step σ ρ)} (n:Nat) (mk:List Nat -> τ -> σ) (I:List Nat -> τ -> Prop) (Q:ρ -> Prop)
  (h:∀ L t,I L t -> L.Nodup -> (∀ i ∈ L,i < n) -> ∃ K:Option Nat -> M (Step σ ρ),body (mk L t) = yY (∀ i ∈ L,i < n) ((nxt n L).bind K) /\ ((∀ i,i < n -> i ∈ L) -> (K none).wp (Step.post (fun _=>False) Q)) /\
   ∀ i,i < n -> i ∉ L -> ∃ t',K (some i) = pure (.next (mk (L ++ [i]) t')) /\ I (L ++ [i]) t') (t0:τ) (h0:I [] t0):(loop body (mk [] t0)).wp Q:=by
 have key:∀ k L t,L.length + k = n -> L.Nodup -> (∀ i ∈ L,i < n) -> I L t -> Uq body Q (mk L t):=by
  intro k
  induction k with
  | zero=>
   intro L t hk hn hlt hI;obtain ⟨K,h1,h2,h3⟩:=h L t hI hn hlt;refine uv ?_;rw [h1];have hall:∀ i,i < n -> i ∈ L:=full hn hlt (by omega);refine ⟨hlt,⟨⟨none,hall⟩,fun o ho=>?_⟩⟩
   cases o with
   | none=>exact (K none).mono (fun a ha=>by cases a with | next s=>exact ha.elim | done r=>exact ha) (h2 hall)
   | some i=>exact absurd (hall i ho.1) ho.2
  | succ k ih=>
   intro L t hk hn hlt hI;obtain ⟨K,h1,h2,h3⟩:=h L t hI hn hlt;refine uv ?_;rw [h1];have hex:∃ i,i < n /\ i ∉ L:=by
    refine Classical.byContradiction fun hno=>?_
    have hall:∀ i,i < n -> i ∈ L:=fun i hi=>Classical.byContradiction fun h=>hno ⟨i,hi,h⟩
    have:=(JX hn hlt hall).length_eq;simp at this;omega
   obtain ⟨i0,hi0⟩:=hex;refine ⟨hlt,⟨⟨some i0,hi0⟩,fun o ho=>?_⟩⟩
   cases o with
   | none=>exact absurd (ho i0 hi0.1) hi0.2
   | some i=>
    obtain ⟨t',h4,h5⟩:=h3 i ho.1 ho.2;show (K (some i)).wp _;rw [h4];refine ih (L ++ [i]) t' (by simp;omega) ?_ ?_ h5
    ·rw [List.nodup_append];refine ⟨hn,by simp,fun a ha b hb'=>?_⟩;rw [List.mem_singleton.1 hb'];intro e;exact ho.2 (e ▸ ha)
    ·intro j hj;rcases List.mem_append.1 hj with hj | hj
     ·exact hlt j hj
     ·rw [List.mem_singleton.1 hj];exact ho.1
 exact key n [] t0 (by simp) List.nodup_nil (by simp) h0
end M

namespace AL
variable {κ ν:Type} [DecidableEq κ]
theorem x0a (m:List (κ × ν)) (k q:κ) (v:ν):get (set m k v) q = if k = q then some v else get m q:=by
 induction m with
 | nil=>simp [set,get]
 | cons x r ih=>
  obtain ⟨a,u⟩:=x
  by_cases h:a = k
  ·subst h;simp only [set,if_true,get];split <;> rfl
  ·simp only [set,h,if_false,get,ih]
   by_cases h2:a = q
   ·subst h2;simp [Ne.symm h]
   ·simp [h2]
theorem getZ_set (m:List (κ × ν)) (k q:κ) (v z:ν):getZ (set m k v) q z = if k = q then v else getZ m q z:=by
 unfold getZ;rw [x0a];split <;> rfl
theorem keys_set (m:List (κ × ν)) (k:κ) (v:ν):(set m k v).map (·.1) = if k ∈ m.map (·.1) then m.map (·.1) else m.map (·.1) ++ [k]:=by
 induction m with
 | nil=>simp [set]
 | cons x r ih=>
  obtain ⟨a,u⟩:=x
  by_cases h:a = k
  ·subst h;simp [set]
  ·simp only [set,h,if_false,List.map_cons,ih,List.mem_cons,Ne.symm h,false_or]
   split <;> simp
theorem nodup_set {m:List (κ × ν)} (h:(m.map (·.1)).Nodup) (k:κ) (v:ν):((set m k v).map (·.1)).Nodup:=by
 rw [keys_set]
 split
 ·exact h
 ·rename_i hk
  rw [List.nodup_append];refine ⟨h,by simp,fun a ha b hb=>?_⟩;rw [List.mem_singleton.1 hb];intro e;exact hk (e ▸ ha)
theorem get_none {m:List (κ × ν)} {k:κ}:get m k = none ↔ k ∉ m.map (·.1):=by
 induction m with
 | nil=>simp [get]
 | cons x r ih=>
  obtain ⟨a,u⟩:=x
  by_cases h:a = k
  ·subst h;simp [get]
  ·simp [get,h,ih,Ne.symm h]
theorem get_mem {m:List (κ × ν)} {k:κ} {v:ν} (h:get m k = some v):(k,v) ∈ m:=by
 induction m with
 | nil=>simp [get] at h
 | cons x r ih=>
  obtain ⟨a,u⟩:=x
  by_cases e:a = k
  ·subst e;simp [get] at h;subst h;simp
  ·simp only [get,e,if_false] at h;exact List.mem_cons_of_mem _ (ih h)
theorem mem_get {m:List (κ × ν)} (hn:(m.map (·.1)).Nodup) {k:κ} {v:ν} (h:(k,v) ∈ m):get m k = some v:=by
 induction m with
 | nil=>simp at h
 | cons x r ih=>
  obtain ⟨a,u⟩:=x;simp only [List.map_cons,List.nodup_cons] at hn;rcases List.mem_cons.1 h with e | h
  ·cases e;simp [get]
  ·have:a ≠ k:=fun e=>hn.1 (e ▸ List.mem_map.2 ⟨(k,v),h,rfl⟩)
   simp only [get,this,if_false];exact ih hn.2 h
theorem len_set (m:List (κ × ν)) (k:κ) (v:ν):(set m k v).length <= m.length + 1:=by
 induction m with
 | nil=>simp [set]
 | cons x r ih=>
  obtain ⟨a,u⟩:=x;unfold set
  split
  ·simp
  ·simpa using ih
end AL
end Go.Ep

namespace Go.Ep.M.V
open Go

def yA (d:DT):Bool:=decide (1 <= d.dev) && (decide (1 <= d.n) && decide (d.n <= 281474976710655))
theorem vy {d:DT}:yA d = true ↔ 1 <= d.dev /\ 1 <= d.n /\ d.n <= 281474976710655:=by simp [yA]
theorem Za (d:DT):uy d = pure (yA d):=by
 unfold uy;rw [zM,zM,zA];refine congrArg pure ?_;rw [Bool.eq_iff_iff,vy];simp only [Bool.and_eq_true,decide_eq_true_eq];omega
theorem vz (d:DT):uQ d = pure (yA d):=by
 unfold uQ;rw [zM,zM,zA];refine congrArg pure ?_;rw [Bool.eq_iff_iff,vy];simp only [Bool.and_eq_true,decide_eq_true_eq];omega
def ofV : List DT -> Int -> Int
 | [],_=>0
 | d :: r,dev=>if d.dev = dev /\ yA d = true then max d.n (ofV r dev) else ofV r dev
theorem x7a (v:List DT) (dev:Int):0 <= ofV v dev /\ ofV v dev <= 281474976710655:=by
 induction v with
 | nil=>simp [ofV]
 | cons d r ih=>
  simp only [ofV]
  split
  ·rename_i h;have:=vy.1 h.2;omega
  ·exact ih
theorem ofV_pos {v:List DT} {dev:Int}:0 < ofV v dev ↔ ∃ d ∈ v,d.dev = dev /\ yA d = true:=by
 induction v with
 | nil=>simp [ofV]
 | cons d r ih=>
  simp only [ofV,List.mem_cons,exists_eq_or_imp]
  split
  ·rename_i h
   have:=vy.1 h.2
   constructor
   ·intro _;exact .inl h
   ·intro _;omega
  ·rename_i h
   rw [ih]
   constructor
   ·exact .inr
   ·rintro (hh | hh)
    ·exact absurd hh h
    ·exact hh
def Um : List Int -> Int -> List Int
 | [],k=>[k]
 | a :: r,k=>if k < a then k :: a :: r else if k = a then a :: r else a :: Um r k
theorem VX {l:List Int} {k q:Int}:q ∈ Um l k ↔ q = k \/ q ∈ l:=by
 induction l with
 | nil=>simp [Um]
 | cons a r ih=>
  unfold Um
  split
  ·simp
  ·split
   ·rename_i h;subst h;simp
   ·simp only [List.mem_cons,ih];constructor
    ·rintro (h | h | h) <;> simp [h]
    ·rintro (h | h | h) <;> simp [h]
theorem uA {l:List Int} (h:l.Pairwise (· < ·)) (k:Int):(Um l k).Pairwise (· < ·):=by
 induction l with
 | nil=>simp [Um]
 | cons a r ih=>
  obtain ⟨h1,h2⟩:=List.pairwise_cons.1 h;unfold Um
  split
  ·rename_i hk
   refine List.pairwise_cons.2 ⟨fun x hx=>?_,h⟩;rcases List.mem_cons.1 hx with rfl | hx
   ·exact hk
   ·have:=h1 x hx;omega
  ·split
   ·exact h
   ·refine List.pairwise_cons.2 ⟨fun x hx=>?_,ih h2⟩;rcases VX.1 hx with rfl | hx
    ·omega
    ·exact h1 x hx
theorem Xv (l : List Int) (k : Int) : (Um l k).length <= l.length + 1 := by
  induction l with
  | nil => simp [Um]
  | cons a r ih => unfold Um; split <;> try split
                   all_goals simp_all
def Zb (l:List Int) (d:DT):List Int:=if yA d then Um l d.dev else l
def x8a (v:List DT):List Int:=v.foldl Zb []
theorem Zc (v:List DT):∀ l:List Int,l.Pairwise (· < ·) -> (v.foldl Zb l).Pairwise (· < ·) /\ (∀ k,k ∈ v.foldl Zb l ↔ k ∈ l \/ ∃ d ∈ v,d.dev = k /\ yA d = true) /\ (v.foldl Zb l).length <= l.length + v.length:=by
 induction v with
 | nil=>intro l h;simp [h]
 | cons d r ih=>
  intro l h;simp only [List.foldl_cons];unfold Zb
  split
  ·rename_i hg
   obtain ⟨h1,h2,h3⟩:=ih _ (uA h d.dev);refine ⟨h1,fun k=>?_,?_⟩
   ·have:=h2 k;unfold Zb at this;rw [this,VX]
    constructor
    ·rintro ((rfl | h) | ⟨e,he,h⟩)
     ·exact .inr ⟨d,by simp,rfl,hg⟩
     ·exact .inl h
     ·exact .inr ⟨e,by simp [he],h⟩
    ·rintro (h | ⟨e,he,h⟩)
     ·exact .inl (.inr h)
     ·rcases List.mem_cons.1 he with rfl | he
      ·exact .inl (.inl h.1.symm)
      ·exact .inr ⟨e,he,h⟩
   ·have:=Xv l d.dev;simp only [List.length_cons];unfold Zb at h3;omega
  ·rename_i hg
   obtain ⟨h1,h2,h3⟩:=ih _ h;refine ⟨h1,fun k=>?_,?_⟩
   ·have:=h2 k;unfold Zb at this;rw [this]
    constructor
    ·rintro (h | ⟨e,he,h⟩)
     ·exact .inl h
     ·exact .inr ⟨e,by simp [he],h⟩
    ·rintro (h | ⟨e,he,h⟩)
     ·exact .inl h
     ·rcases List.mem_cons.1 he with rfl | he
      ·exact absurd h.2 hg
      ·exact .inr ⟨e,he,h⟩
   ·simp only [List.length_cons];unfold Zb at h3;omega
theorem yl (v:List DT):(x8a v).Pairwise (· < ·):=(Zc v [] List.Pairwise.nil).1
theorem xR {v:List DT} {k:Int}:k ∈ x8a v ↔ 0 < ofV v k:=by rw [ofV_pos];simpa [x8a] using (Zc v [] List.Pairwise.nil).2.1 k
theorem z2a (v:List DT):(x8a v).length <= v.length:=by simpa [x8a] using (Zc v [] List.Pairwise.nil).2.2
def vQ (m:List (Int × Int)) (d:DT):List (Int × Int):=if yA d then AL.set m d.dev (max (AL.getZ m d.dev 0) d.n) else m
def xb (v:List DT):List (Int × Int):=v.foldl vQ []
theorem VY (v:List DT):∀ m:List (Int × Int),(m.map (·.1)).Nodup -> ((v.foldl vQ m).map (·.1)).Nodup /\ ((∀ k,0 <= AL.getZ m k 0) -> ∀ k,AL.getZ (v.foldl vQ m) k 0 = max (AL.getZ m k 0) (ofV v k)) /\ (v.foldl vQ m).length <= m.length + v.length /\ (∀ k,k ∈ (v.foldl vQ m).map (·.1) -> k ∈ m.map (·.1) \/ 0 < ofV v k):=by
 induction v with
 | nil=>
  intro m h;refine ⟨h,fun h0 k=>?_,by simp,fun k hk=>.inl hk⟩;have:=h0 k;simp only [List.foldl_nil,ofV];omega
 | cons d r ih=>
  intro m h;simp only [List.foldl_cons]
  by_cases hg:yA d = true
  ·have hd:=vy.1 hg;have e:vQ m d = AL.set m d.dev (max (AL.getZ m d.dev 0) d.n):=by simp [vQ,hg]
   rw [e];obtain ⟨h1,h2,h3,h4⟩:=ih _ (AL.nodup_set h d.dev (max (AL.getZ m d.dev 0) d.n));refine ⟨h1,fun h0 k=>?_,?_,fun k hk=>?_⟩
   ·rw [h2 (fun q=>by rw [AL.getZ_set];have:=h0 q;have:=h0 d.dev;split <;> omega),AL.getZ_set];simp only [ofV]
    by_cases hk:d.dev = k
    ·subst hk;simp only [if_true,hg,and_self];omega
    ·simp [hk]
   ·have:=AL.len_set m d.dev (max (AL.getZ m d.dev 0) d.n);simp only [List.length_cons];omega
   ·simp only [ofV];rcases h4 k hk with h5 | h5
    ·rw [AL.keys_set] at h5
     split at h5
     ·exact .inl h5
     ·rcases List.mem_append.1 h5 with h5 | h5
      ·exact .inl h5
      ·right
       rw [List.mem_singleton.1 h5,if_pos ⟨rfl,hg⟩];omega
    ·right;split <;> omega
  ·have e:vQ m d = m:=by simp [vQ,hg]
   rw [e];obtain ⟨h1,h2,h3,h4⟩:=ih m h;have e2:∀ k,ofV (d :: r) k = ofV r k:=fun k=>by simp only [ofV];rw [if_neg (fun hh=>hg hh.2)]
   exact ⟨h1,fun h0 k=>by rw [h2 h0,e2],by simp only [List.length_cons];omega,fun k hk=>by rw [e2];exact h4 k hk⟩
theorem va (v:List DT):((xb v).map (·.1)).Nodup:=(VY v [] (by simp)).1
theorem xq (v:List DT) (k:Int):AL.getZ (xb v) k 0 = ofV v k:=by
 have:=(VY v [] (by simp)).2.1 (fun _=>Int.le_refl _) k;have h2:=x7a v k;rw [xb,this];show max 0 (ofV v k) = _;omega
theorem JY (v:List DT):(xb v).length <= v.length:=by simpa [xb] using (VY v [] (by simp)).2.2.1
theorem Zd {v:List DT} {k n:Int} (h:(k,n) ∈ xb v):n = ofV v k /\ 0 < n:=by
 have h1:=AL.mem_get (va v) h;have h2:AL.getZ (xb v) k 0 = n:=by simp [AL.getZ,h1]
 rw [xq] at h2;have h3:=(VY v [] (by simp)).2.2.2 k (List.mem_map.2 ⟨_,h,rfl⟩);simp at h3;omega
def Ux (h:Int × Int -> Int) (m:List (Int × Int)) (L:List Nat):List (Int × Int):=m.zipIdx.map fun y=>if y.2 ∈ L then (y.1.1,h y.1) else y.1
theorem yu {h:Int × Int -> Int} {m:List (Int × Int)} {L:List Nat} {i:Nat}:(Ux h m L)[i]? = (m[i]?).map fun e=>if i ∈ L then (e.1,h e) else e:=by
 unfold Ux;rw [List.getElem?_map,List.getElem?_zipIdx]
 cases m[i]? <;> simp
theorem VZ {h:Int × Int -> Int} {m:List (Int × Int)} {L:List Nat}:(Ux h m L).length = m.length:=by simp [Ux]
theorem x9a {m:List (Int × Int)} (hn:(m.map (·.1)).Nodup) {i:Nat} {e:Int × Int} (hi:m[i]? = some e) (v:Int):AL.set m e.1 v = m.set i (e.1,v):=by
 induction m generalizing i with
 | nil=>simp at hi
 | cons x r ih=>
  obtain ⟨a,u⟩:=x;simp only [List.map_cons,List.nodup_cons] at hn
  cases i with
  | zero=>simp at hi;subst hi;simp [AL.set]
  | succ i=>
   simp only [List.getElem?_cons_succ] at hi;have:a ≠ e.1:=fun he=>hn.1 (he ▸ List.mem_map.2 ⟨e,List.mem_of_getElem? hi,rfl⟩)
   simp only [AL.set,this,if_false,List.set_cons_succ];rw [ih hn.2 hi]
theorem Xw {h:Int × Int -> Int} {m:List (Int × Int)} {L:List Nat}:(Ux h m L).map (·.1) = m.map (·.1):=by
 apply List.ext_getElem?;intro i;rw [List.getElem?_map,yu,List.getElem?_map]
 cases m[i]? with
 | none=>rfl
 | some e=>simp only [Option.map_some];split <;> rfl
theorem qp {h:Int × Int -> Int} {m:List (Int × Int)} (hn:(m.map (·.1)).Nodup) {L:List Nat} {i:Nat} {e:Int × Int} (hi:m[i]? = some e) (hL:i ∉ L):AL.set (Ux h m L) e.1 (h e) = Ux h m (L ++ [i]):=by
 have h1:(Ux h m L)[i]? = some e:=by rw [yu,hi];simp [hL]
 rw [x9a (by rw [Xw];exact hn) h1];apply List.ext_getElem?;intro j;rw [List.getElem?_set,VZ,yu,yu]
 by_cases hj:i = j
 ·subst hj;have:=(List.getElem?_eq_some_iff.1 hi).1;rw [if_pos rfl,if_pos this,hi];simp
 ·rw [if_neg hj];have:j ∈ L ++ [i] ↔ j ∈ L:=by simp;exact fun e=>absurd e.symm hj
  simp only [this]
theorem z3a {h:Int × Int -> Int} {m:List (Int × Int)} {L:List Nat} (hL:∀ i,i < m.length -> i ∈ L):Ux h m L = m.map fun e=>(e.1,h e):=by
 apply List.ext_getElem?;intro i;rw [yu,List.getElem?_map]
 cases hm:m[i]? with
 | none=>rfl
 | some e=>simp [hL i (List.getElem?_eq_some_iff.1 hm).1]
theorem zGa {v:List DT} {k:Int} (h:0 < ofV v k):(k,ofV v k) ∈ xb v:=by
 have h1:AL.getZ (xb v) k 0 = ofV v k:=xq v k;unfold AL.getZ at h1
 cases hg:AL.get (xb v) k with
 | none=>rw [hg] at h1;simp at h1;omega
 | some n=>rw [hg] at h1;simp at h1;subst h1;exact AL.get_mem hg

def z4a (a b:DT):Int:=if a = b then 0 else if zT a b then -1 else 1
theorem un (a b:DT):uV a b = pure (z4a a b):=by
 unfold uV z4a;have h1:(decide (a.dev = b.dev) && decide (a.n = b.n)) = decide (a = b):=by
  rw [Bool.eq_iff_iff];cases a;cases b;simp
 have h2:(cond (decide (a.dev < b.dev)) (pure true) (cond (decide (a.dev = b.dev)) (pure (decide (a.n < b.n))) (pure false)):M Bool) = pure (zT a b):=by
  rw [zM,qJ];rfl
 rw [h1,h2,xP,zA]
 split
 ·rfl
 ·cases zT a b <;> rfl
theorem JZ {a b:DT}:z4a a b < 0 ↔ zT a b = true:=by
 unfold z4a
 split
 ·rename_i h;subst h;simp [zT]
 ·split <;> simp_all
theorem cmpD_pos {a b:DT}:0 < z4a a b ↔ zT b a = true:=by
 unfold z4a
 by_cases h:a = b
 ·subst h;simp [zT]
 ·rw [if_neg h]
  cases a;cases b
  simp only [DT.mk.injEq] at h;simp only [zT,Bool.or_eq_true,Bool.and_eq_true,decide_eq_true_eq]
  split <;> omega
theorem WY (l:List DT) (d:DT) (h:l.length <= 1000000000000):uW l d = pure ((l.filter fun x=>zT x d) ++ [d] ++ (l.filter fun x=>zT d x)):=by
 unfold uW;have c0:∀ o:List DT,o.length <= 1000000000000 -> True:=fun _ _=>trivial
 have h1:=Zz (body:=YY l d) l (fun i (o:List DT)=>((i:Int),o)) (fun o x=>if zT x d then o ++ [x] else o) (fun o=>pure o) (fun i o=>o.length <= i) (fun i x o hx hi ho=>by
  have h1:decide ((i:Int) < (l.length:Int)) = true:=by simpa using hi
  unfold YY;simp only [h1,cond_true,zH hx,zA,un,zB,zn (show i < 9223372036854775807 by omega),xP,JZ]
  split
  ·rw [zD (by simp;omega)];exact ⟨rfl,by simp;omega⟩
  ·exact ⟨rfl,by omega⟩) (fun o _=>by unfold YY;simp [zA]) [] (by simp)
 have h2:∀ o0:List DT,o0.length <= 1000000000001 -> loop (ug l d) (0,o0) = pure (l.foldl (fun o x=>if zT d x then o ++ [x] else o) o0):=fun o0 ho0=>by
  have:=Zz (body:=ug l d) l (fun i (o:List DT)=>((i:Int),o)) (fun o x=>if zT d x then o ++ [x] else o) (fun o=>pure o) (fun i o=>o.length <= o0.length + i) (fun i x o hx hi ho=>by
   have h1:decide ((i:Int) < (l.length:Int)) = true:=by simpa using hi
   unfold ug;simp only [h1,cond_true,zH hx,zA,un,zB,zn (show i < 9223372036854775807 by omega),xP,cmpD_pos]
   split
   ·rw [zD (by simp;omega)];exact ⟨rfl,by simp;omega⟩
   ·exact ⟨rfl,by omega⟩) (fun o _=>by unfold ug;simp [zA]) o0 (by simp)
  exact this
 have hf:∀ (p:DT -> Bool) (l o:List DT),l.foldl (fun o x=>if p x then o ++ [x] else o) o = o ++ l.filter p:=by
  intro p l
  induction l with
  | nil=>simp
  | cons x r ih=>
   intro o;rw [List.foldl_cons,ih,List.filter_cons]
   split <;> simp
 rw [show ((0:Int),([]:List DT)) = (((0:Nat):Int),[]) from rfl,h1,hf,zA,zD,h2,hf,zA]
 ·rfl
 ·have:=List.length_filter_le (fun x=>zT x d) l;simp;omega
 ·have:=List.length_filter_le (fun x=>zT x d) l;simp;omega
def Yk (l:List Int):List DT:=l.map fun k=>⟨k,1⟩
theorem z5a {l:List Int} (h:l.Pairwise (· < ·)) (k:Int):((Yk l).filter fun x=>zT x ⟨k,1⟩) ++ [⟨k,1⟩] ++ ((Yk l).filter fun x=>zT ⟨k,1⟩ x) = Yk (Um l k):=by
 induction l with
 | nil=>rfl
 | cons a r ih=>
  obtain ⟨h1,h2⟩:=List.pairwise_cons.1 h;have i2:=ih h2;unfold Um
  by_cases c1:k < a
  ·rw [if_pos c1];have e1:(Yk (a :: r)).filter (fun x=>zT x ⟨k,1⟩) = []:=by
    rw [List.filter_eq_nil_iff];intro x hx;simp only [Yk,List.map_cons,List.mem_cons,List.mem_map] at hx;rcases hx with rfl | ⟨b,hb,rfl⟩
    ·simp [zT];omega
    ·have:=h1 b hb;simp [zT];omega
   have e2:(Yk (a :: r)).filter (fun x=>zT ⟨k,1⟩ x) = Yk (a :: r):=by
    rw [List.filter_eq_self];intro x hx;simp only [Yk,List.map_cons,List.mem_cons,List.mem_map] at hx;rcases hx with rfl | ⟨b,hb,rfl⟩
    ·simp [zT];omega
    ·have:=h1 b hb;simp [zT];omega
   rw [e1,e2];rfl
  ·rw [if_neg c1]
   by_cases c2:k = a
   ·subst c2;rw [if_pos rfl];have e1:(Yk (k :: r)).filter (fun x=>zT x ⟨k,1⟩) = []:=by
     rw [List.filter_eq_nil_iff];intro x hx;simp only [Yk,List.map_cons,List.mem_cons,List.mem_map] at hx;rcases hx with rfl | ⟨b,hb,rfl⟩
     ·simp [zT]
     ·have:=h1 b hb;simp [zT];omega
    have e2:(Yk (k :: r)).filter (fun x=>zT ⟨k,1⟩ x) = Yk r:=by
     show List.filter _ (⟨k,1⟩ :: Yk r) = _;rw [List.filter_cons,if_neg (by simp [zT]),List.filter_eq_self];intro x hx;simp only [Yk,List.mem_map] at hx;obtain ⟨b,hb,rfl⟩:=hx;have:=h1 b hb;simp [zT];omega
    rw [e1,e2];rfl
   ·rw [if_neg c2];show (List.filter _ (⟨a,1⟩ :: Yk r)) ++ _ ++ (List.filter _ (⟨a,1⟩ :: Yk r)) = ⟨a,1⟩ :: Yk (Um r k);rw [List.filter_cons,if_pos (by simp [zT];omega),List.filter_cons,if_neg (by simp [zT];omega),<- i2]
    rfl
end Go.Ep.M.V

