/- Side texts. -/
import Derived.Test.YthldiocaakcolaaGreatDoorMMr2
import Derived.Test.YthldiocaakcolaaGreatDoorMMr3
import Derived.Test.YthldiocaakcolaaGreatDoorMMr4
import Derived.Test.YthldiocaakcolaaGreatDoorMMr5
import Derived.Test.YthldiocaakcolaaGreatDoorMMr6
import Derived.Test.YthldiocaakcolaaGreatDoorMMr7
import Derived.Test.YthldiocaakcolaaGreatDoorMMr8
set_option linter.unusedVariables false
set_option linter.unusedSimpArgs false
namespace Go.Proofs
open Go.Ep Tryz
set_option maxHeartbeats 1000000
set_option maxRecDepth 100000
set_option linter.unusedVariables false
set_option linter.unusedSimpArgs false


theorem xNa (d1:DL) (dev2:Int) (r0:Bool) (h:(jJ d1 dev2).wp (· = r0)):PFun prog 40 [.agg (List.map .d (DL.e d1)),.d (.v (.int .u16 dev2))] (.d (.v (.bool r0))):=by
 refine fI (sl:=[(0,_),(1,_)]) func40 rfl ntmps40 rfl rfl ?_;intro ctx hK;(iterate 10 refine g5 ?_);refine PWc.jnX (zF h) (fun (_:Unit) (_:Unit)=>⟨74,[(2,.ref 2 0)],[(2,.cells 30 [.d (.sl (List.map PT.e d1.from_)),.d (.sl (List.map PT.e d1.to_)),.d (.sl (List.map EV.e d1.events))])]⟩) (fun h=>?_) ?_
 ·refine g5 ?_;refine wM (fun (i40:Int) (_:Unit)=>⟨74,[(1,.d (.v (.int .u16 dev2))),(2,.ref 2 0),(5,.d (.v (.int .i64 i40)))],[(2,.cells 30 [.d (.sl (List.map PT.e d1.from_)),.d (.sl (List.map PT.e d1.to_)),.d (.sl (List.map EV.e d1.events))])]⟩) () h (sP) ?_;rintro N i40 _ h;(iterate 9 refine g5 ?_);refine xD h rfl (fun _ h=>?_) (fun _ h=>?_)
  ·(iterate 4 refine g5 ?_);refine wJ (zF h) (fun (v42:Bool) (_:Unit)=>⟨74,[(1,.d (.v (.int .u16 dev2))),(2,.ref 2 0),(5,.d (.v (.int .i64 i40))),(51,.d (.v (.bool v42)))],[(2,.cells 30 [.d (.sl (List.map PT.e d1.from_)),.d (.sl (List.map PT.e d1.to_)),.d (.sl (List.map EV.e d1.events))])]⟩) (fun h=>?_) ?_
   ·refine g5 ?_;(iterate 3 refine h5 ?_);obtain ⟨x43,hy44,h⟩:=yF h;refine qs (fun _ U W=>iX (enc:=EV.e) (L:=d1.events) (y:=x43) underlying28 sizeOf108 U U hy44 (fun _=>rfl)) ?_;refine h5 ?_;obtain ⟨v45,hy46,h⟩:=zI h;refine qs (fun _ U W=>cN (Wy x43 v45 hy46) U call80 (vu (fun a b=>U a b) rfl rfl) rfl rfl rfl) ?_;(iterate 2 refine h5 ?_);refine xQ (d:=20) h rfl (fun _ h=>?_) (fun _ h=>?_)
    ·(iterate 20 refine h5 ?_);refine kK (tl:=[(1,_),(2,_),(5,_),(21,_),(22,_),(23,_),(24,_),(25,_),(26,_),(27,_),(28,_),(29,_),(31,_),(32,_),(33,_),(34,_),(35,_),(36,_),(37,_),(38,_),(39,_),(40,_)]) ?_;(iterate 12 refine h5 ?_);exact ⟨true,(),h,sP⟩
    ·(iterate 3 refine h5 ?_);obtain ⟨x48,hy49,h⟩:=yF h;refine qt (fun _ U W=>iX (enc:=EV.e) (L:=d1.events) (y:=x48) underlying28 sizeOf108 U U hy49 (fun _=>rfl)) ?_;(iterate 7 refine h5 ?_);refine xQ (d:=31) h rfl (fun _ h=>?_) (fun _ h=>?_)
     ·(iterate 8 refine h5 ?_);refine kK (tl:=[(1,_),(2,_),(5,_),(21,_),(22,_),(23,_),(24,_),(25,_),(26,_),(27,_),(28,_),(29,_),(31,_),(32,_),(33,_),(34,_),(35,_),(36,_),(37,_),(38,_),(39,_)]) ?_;(iterate 13 refine h5 ?_);exact ⟨true,(),h,sP⟩
     ·(iterate 3 refine h5 ?_);refine xQ (d:=34) h rfl (fun _ h=>?_) (fun _ h=>?_)
      ·(iterate 4 refine h5 ?_);refine kK (tl:=[(1,_),(2,_),(5,_),(21,_),(22,_),(23,_),(24,_),(25,_),(26,_),(27,_),(28,_),(29,_),(31,_),(32,_),(33,_),(34,_),(35,_),(36,_),(37,_),(38,_)]) ?_;obtain ⟨x52,hy53,h⟩:=yF h;refine qt (fun _ U W=>iX (enc:=EV.e) (L:=d1.events) (y:=x52) underlying28 sizeOf108 U U hy53 (fun _=>rfl)) ?_;(iterate 5 refine h5 ?_);obtain ⟨x54,hy55,h⟩:=yF h;refine qt (fun _ U W=>iX (enc:=EV.e) (L:=d1.events) (y:=x54) underlying28 sizeOf108 U U hy55 (fun _=>rfl)) ?_;(iterate 2 refine h5 ?_);obtain ⟨v56,hy57,h⟩:=zI h;refine qt (fun _ U W=>cN (vY x52.dot x54.dot v56 hy57) U call71 (vu (fun a b=>U a b) rfl rfl) rfl rfl rfl) ?_;(iterate 4 refine h5 ?_);exact ⟨(decide (0 <= v56)),(),h,sP⟩
      ·(iterate 4 refine h5 ?_);refine kK (tl:=[(1,_),(2,_),(5,_),(21,_),(22,_),(23,_),(24,_),(25,_),(26,_),(27,_),(28,_),(29,_),(31,_),(32,_),(33,_),(34,_),(35,_),(36,_),(37,_),(38,_)]) ?_;(iterate 14 refine h5 ?_);exact ⟨false,(),h,sP⟩
   ·rintro v42 _ h;refine xD h rfl (fun _ h=>?_) (fun _ h=>?_)
    ·(iterate 4 refine g5 ?_);refine wX ?_;cases h;exact xT
    ·(iterate 6 refine g5 ?_);exact ⟨(IntKind.i64.wrap (i40 + 1)),(),h,sP⟩
  ·refine wZ ?_;exact ⟨(),(),h,sP⟩
 ·rintro _ _ h;refine g5 ?_;refine wJ (zF h) (fun (v59:Bool) (_:Unit)=>⟨74,[(4,.d (.v (.bool v59)))],[]⟩) (fun h=>?_) ?_
  ·(iterate 6 refine g5 ?_);refine xG (d:=56) h rfl (fun _ h=>?_) (fun _ h=>?_)
   ·(iterate 6 refine g5 ?_);refine xG (d:=62) h rfl (fun _ h=>?_) (fun _ h=>?_)
    ·(iterate 6 refine g5 ?_);refine xG (d:=68) h rfl (fun _ h=>?_) (fun _ h=>?_)
     ·refine wy (tl:=[(2,_),(68,_)]) (to:=[(2,_)]) ?_;(iterate 7 refine g5 ?_);exact ⟨(decide ((d1.events.length:Int) <= 4)),(),h,sP⟩
     ·refine wy (tl:=[(2,_),(68,_)]) (to:=[(2,_)]) ?_;(iterate 7 refine g5 ?_);exact ⟨false,(),h,sP⟩
    ·(iterate 7 refine g5 ?_);refine wy (tl:=[(68,_),(69,_)]) (to:=[]) ?_;(iterate 6 refine g5 ?_);exact ⟨false,(),h,sP⟩
   ·(iterate 14 refine g5 ?_);refine wy (tl:=[(68,_),(70,_)]) (to:=[]) ?_;(iterate 5 refine g5 ?_);exact ⟨false,(),h,sP⟩
  ·rintro v59 _ h;refine wX ?_;cases h;exact xT

theorem qG (c1:List PT) (l2:List EV) (r0:Bool) (h:(Yk c1 l2).wp (· = r0)):PFun prog 41 [.d (.sl (List.map PT.e c1)),.d (.sl (List.map EV.e l2))] (.d (.v (.bool r0))):=by
 refine fI (sl:=[(0,_),(1,_)]) func41 rfl ntmps41 rfl rfl ?_;intro ctx hK;(iterate 9 refine g5 ?_);refine PWc.jnX (zF h) (fun (_:Unit) (_:Unit)=>⟨19,[],[]⟩) (fun h=>?_) ?_
 ·refine g5 ?_;refine wM (fun (i_16:Int) (_:Unit)=>⟨19,[(0,.d (.sl (List.map PT.e c1))),(1,.d (.sl (List.map EV.e l2))),(5,.d (.v (.int .i64 i_16)))],[]⟩) () h (sP) ?_;rintro N i_16 _ h;(iterate 8 refine g5 ?_);refine xD h rfl (fun _ h=>?_) (fun _ h=>?_)
  ·(iterate 8 refine g5 ?_);obtain ⟨x18,hy19,h⟩:=yF h;refine ws (iX (enc:=EV.e) (L:=l2) (y:=x18) underlying28 sizeOf108 rfl rfl hy19 (fun _=>rfl)) ?_;(iterate 2 refine g5 ?_);obtain ⟨v20,hy21,h⟩:=zI h;refine xN (WQ c1 x18.dot v20 hy21) call81 ?_;refine g5 ?_;refine xD h rfl (fun _ h=>?_) (fun _ h=>?_)
   ·(iterate 4 refine g5 ?_);refine wX ?_;cases h;exact xT
   ·(iterate 6 refine g5 ?_);exact ⟨(IntKind.i64.wrap (i_16 + 1)),(),h,sP⟩
  ·refine wZ ?_;exact ⟨(),(),h,sP⟩
 ·rintro _ _ h;(iterate 4 refine g5 ?_);refine wX ?_;cases h;exact xT

theorem xOa (d1:DL) (r0:Bool) (h:(jK d1).wp (· = r0)):PFun prog 42 [.agg (List.map .d (DL.e d1))] (.d (.v (.bool r0))):=by
 refine fI (sl:=[(0,_)]) func42 rfl ntmps42 rfl rfl ?_;intro ctx hK;(iterate 6 refine g5 ?_);refine wJ (zF h) (fun (v2:Bool) (_:Unit)=>⟨19,[(2,.d (.v (.bool v2)))],[]⟩) (fun h=>?_) ?_
 ·(iterate 6 refine g5 ?_);refine xG (d:=7) h rfl (fun _ h=>?_) (fun _ h=>?_)
  ·(iterate 6 refine g5 ?_);refine xG (d:=13) h rfl (fun _ h=>?_) (fun _ h=>?_)
   ·(iterate 5 refine g5 ?_);refine wy (tl:=[(2,_),(18,_)]) (to:=[]) ?_;(iterate 2 refine g5 ?_);exact ⟨(decide ((d1.events.length:Int) = 0)),(),h,sP⟩
   ·(iterate 5 refine g5 ?_);refine wy (tl:=[(2,_),(18,_)]) (to:=[]) ?_;(iterate 2 refine g5 ?_);exact ⟨false,(),h,sP⟩
  ·(iterate 13 refine g5 ?_);exact ⟨false,(),h,sP⟩
 ·rintro v2 _ h;refine wX ?_;cases h;exact xT

theorem xPa (m1:TMsg) (r0:Bool) (h:(ud m1).wp (· = r0)):PFun prog 12 [.agg (List.map .d (TMsg.e m1))] (.d (.v (.bool r0))):=by
 refine fI (sl:=[(0,_)]) func12 rfl ntmps12 rfl rfl ?_;intro ctx hK;(iterate 6 refine g5 ?_);refine wJ (zF h) (fun (hello2:Bool) (_:Unit)=>⟨216,[(1,.ref 1 0),(3,.d (.v (.bool hello2)))],[(1,.cells 32 [.d (.v (.int .u8 m1.kind)),.d (.v (.int .u8 m1.slot)),.d (.v (.int .u64 m1.try_)),.d (.v (.int .u16 m1.dev)),.d (.v (.int .u64 m1.epoch)),.d (.v (.int .u8 m1.why)),.d (.sl (List.map PT.e m1.have_)),.d (.sl (List.map PT.e m1.front)),.d (.sl (List.map PT.e m1.delta.from_)),.d (.sl (List.map PT.e m1.delta.to_)),.d (.sl (List.map EV.e m1.delta.events))])]⟩) (fun h=>?_) ?_
 ·(iterate 5 refine g5 ?_);refine xG (d:=8) h rfl (fun _ h=>?_) (fun _ h=>?_)
  ·(iterate 6 refine g5 ?_);exact ⟨true,(),h,sP⟩
  ·(iterate 6 refine g5 ?_);exact ⟨(decide (m1.kind = 2)),(),h,sP⟩
 ·rintro hello2 _ h;(iterate 2 refine g5 ?_);refine wJ (zF h) (fun (v4:Bool) (_:Unit)=>⟨216,[(1,.ref 1 0),(48,.d (.v (.bool v4)))],[(1,.cells 32 [.d (.v (.int .u8 m1.kind)),.d (.v (.int .u8 m1.slot)),.d (.v (.int .u64 m1.try_)),.d (.v (.int .u16 m1.dev)),.d (.v (.int .u64 m1.epoch)),.d (.v (.int .u8 m1.why)),.d (.sl (List.map PT.e m1.have_)),.d (.sl (List.map PT.e m1.front)),.d (.sl (List.map PT.e m1.delta.from_)),.d (.sl (List.map PT.e m1.delta.to_)),.d (.sl (List.map EV.e m1.delta.events))])]⟩) (fun h=>?_) ?_
  ·(iterate 5 refine g5 ?_);refine xG (d:=16) h rfl (fun _ h=>?_) (fun _ h=>?_)
   ·(iterate 14 refine g5 ?_);refine wy (tl:=[(1,_),(3,_),(21,_),(23,_),(27,_),(30,_)]) (to:=[(1,_)]) ?_;(iterate 15 refine g5 ?_);refine wy (tl:=[(1,_),(35,_),(38,_),(42,_),(45,_)]) (to:=[(1,_)]) ?_;(iterate 4 refine g5 ?_);exact ⟨true,(),h,sP⟩
   ·(iterate 5 refine g5 ?_);refine xG (d:=21) h rfl (fun _ h=>?_) (fun _ h=>?_)
    ·(iterate 8 refine g5 ?_);refine wy (tl:=[(1,_),(3,_),(21,_),(23,_),(27,_),(29,_)]) (to:=[(1,_)]) ?_;(iterate 15 refine g5 ?_);refine wy (tl:=[(1,_),(35,_),(38,_),(42,_),(44,_)]) (to:=[(1,_)]) ?_;(iterate 5 refine g5 ?_);exact ⟨true,(),h,sP⟩
    ·(iterate 2 refine g5 ?_);refine xG (d:=23) h rfl (fun _ h=>?_) (fun _ h=>?_)
     ·(iterate 4 refine g5 ?_);refine xG (d:=27) h rfl (fun _ h=>?_) (fun _ h=>?_)
      ·refine wy (tl:=[(1,_),(3,_),(21,_),(23,_),(27,_)]) (to:=[(1,_)]) ?_;(iterate 16 refine g5 ?_);refine wy (tl:=[(1,_),(35,_),(38,_),(42,_),(43,_)]) (to:=[(1,_)]) ?_;(iterate 6 refine g5 ?_);exact ⟨true,(),h,sP⟩
      ·refine wy (tl:=[(1,_),(3,_),(21,_),(23,_),(27,_)]) (to:=[(1,_)]) ?_;(iterate 2 refine g5 ?_);obtain ⟨v9,hy10,h⟩:=zI h;refine wt (cN (Yv m1.try_ v9 hy10) rfl call35 rfl rfl rfl rfl) ?_;(iterate 5 refine g5 ?_);refine xG (d:=35) h rfl (fun _ h=>?_) (fun _ h=>?_)
       ·(iterate 7 refine g5 ?_);refine wy (tl:=[(1,_),(35,_),(38,_),(42,_)]) (to:=[(1,_)]) ?_;(iterate 7 refine g5 ?_);exact ⟨true,(),h,sP⟩
       ·(iterate 3 refine g5 ?_);refine xG (d:=38) h rfl (fun _ h=>?_) (fun _ h=>?_)
        ·(iterate 3 refine g5 ?_);refine wy (tl:=[(1,_),(35,_),(38,_),(41,_)]) (to:=[(1,_)]) ?_;refine g5 ?_;refine xG (d:=42) h rfl (fun _ h=>?_) (fun _ h=>?_)
         ·(iterate 7 refine g5 ?_);exact ⟨true,(),h,sP⟩
         ·(iterate 7 refine g5 ?_);exact ⟨(!decide (m1.try_ = 0)),(),h,sP⟩
        ·(iterate 3 refine g5 ?_);refine wy (tl:=[(1,_),(35,_),(38,_),(41,_)]) (to:=[(1,_)]) ?_;(iterate 8 refine g5 ?_);exact ⟨false,(),h,sP⟩
     ·(iterate 5 refine g5 ?_);refine wy (tl:=[(1,_),(3,_),(21,_),(23,_),(27,_),(28,_)]) (to:=[(1,_)]) ?_;(iterate 10 refine g5 ?_);refine xG (d:=38) h rfl (fun _ h=>?_) (fun _ h=>?_)
      ·(iterate 4 refine g5 ?_);refine wy (tl:=[(1,_),(35,_),(38,_),(42,_)]) (to:=[(1,_)]) ?_;refine xG (d:=42) h rfl (fun _ h=>?_) (fun _ h=>?_)
       ·(iterate 7 refine g5 ?_);exact ⟨true,(),h,sP⟩
       ·(iterate 7 refine g5 ?_);exact ⟨(!decide (m1.try_ = 0)),(),h,sP⟩
      ·(iterate 4 refine g5 ?_);refine wy (tl:=[(1,_),(35,_),(38,_),(42,_)]) (to:=[(1,_)]) ?_;(iterate 7 refine g5 ?_);exact ⟨false,(),h,sP⟩
  ·rintro v4 _ h;refine xD h rfl (fun _ h=>?_) (fun _ h=>?_)
   ·(iterate 4 refine g5 ?_);refine wX ?_;cases h;exact xT
   ·(iterate 3 refine g5 ?_);refine wJ (zF h) (fun (v17:Bool) (_:Unit)=>⟨216,[(1,.ref 1 0),(77,.d (.v (.bool v17)))],[(1,.cells 32 [.d (.v (.int .u8 m1.kind)),.d (.v (.int .u8 m1.slot)),.d (.v (.int .u64 m1.try_)),.d (.v (.int .u16 m1.dev)),.d (.v (.int .u64 m1.epoch)),.d (.v (.int .u8 m1.why)),.d (.sl (List.map PT.e m1.have_)),.d (.sl (List.map PT.e m1.front)),.d (.sl (List.map PT.e m1.delta.from_)),.d (.sl (List.map PT.e m1.delta.to_)),.d (.sl (List.map EV.e m1.delta.events))])]⟩) (fun h=>?_) ?_
    ·(iterate 5 refine g5 ?_);refine xG (d:=52) h rfl (fun _ h=>?_) (fun _ h=>?_)
     ·(iterate 4 refine g5 ?_);refine xG (d:=56) h rfl (fun _ h=>?_) (fun _ h=>?_)
      ·(iterate 9 refine g5 ?_);refine wy (tl:=[(1,_),(62,_),(65,_)]) (to:=[(1,_)]) ?_;(iterate 13 refine g5 ?_);exact ⟨true,(),h,sP⟩
      ·(iterate 6 refine g5 ?_);refine xG (d:=62) h rfl (fun _ h=>?_) (fun _ h=>?_)
       ·(iterate 2 refine g5 ?_);refine wy (tl:=[(1,_),(62,_),(64,_)]) (to:=[(1,_)]) ?_;(iterate 14 refine g5 ?_);exact ⟨true,(),h,sP⟩
       ·(iterate 2 refine g5 ?_);refine wy (tl:=[(1,_),(62,_),(64,_)]) (to:=[(1,_)]) ?_;(iterate 2 refine g5 ?_);refine xG (d:=66) h rfl (fun _ h=>?_) (fun _ h=>?_)
        ·(iterate 4 refine g5 ?_);refine xG (d:=70) h rfl (fun _ h=>?_) (fun _ h=>?_)
         ·(iterate 8 refine g5 ?_);exact ⟨true,(),h,sP⟩
         ·(iterate 2 refine g5 ?_);obtain ⟨v23,hy24,h⟩:=zI h;refine wt (cN (Yv m1.epoch v23 hy24) rfl call35 rfl rfl rfl rfl) ?_;(iterate 5 refine g5 ?_);exact ⟨(!v23),(),h,sP⟩
        ·(iterate 12 refine g5 ?_);exact ⟨false,(),h,sP⟩
     ·(iterate 14 refine g5 ?_);refine wy (tl:=[(1,_),(62,_),(66,_)]) (to:=[(1,_)]) ?_;refine xG (d:=66) h rfl (fun _ h=>?_) (fun _ h=>?_)
      ·(iterate 4 refine g5 ?_);refine xG (d:=70) h rfl (fun _ h=>?_) (fun _ h=>?_)
       ·(iterate 8 refine g5 ?_);exact ⟨true,(),h,sP⟩
       ·(iterate 2 refine g5 ?_);obtain ⟨v27,hy28,h⟩:=zI h;refine wt (cN (Yv m1.epoch v27 hy28) rfl call35 rfl rfl rfl rfl) ?_;(iterate 5 refine g5 ?_);exact ⟨(!v27),(),h,sP⟩
      ·(iterate 12 refine g5 ?_);exact ⟨false,(),h,sP⟩
    ·rintro v17 _ h;refine xD h rfl (fun _ h=>?_) (fun _ h=>?_)
     ·(iterate 4 refine g5 ?_);refine wX ?_;cases h;exact xT
     ·(iterate 3 refine g5 ?_);refine wJ (zF h) (fun (v30:Bool) (_:Unit)=>⟨216,[(1,.ref 1 0),(100,.d (.v (.bool v30)))],[(1,.cells 32 [.d (.v (.int .u8 m1.kind)),.d (.v (.int .u8 m1.slot)),.d (.v (.int .u64 m1.try_)),.d (.v (.int .u16 m1.dev)),.d (.v (.int .u64 m1.epoch)),.d (.v (.int .u8 m1.why)),.d (.sl (List.map PT.e m1.have_)),.d (.sl (List.map PT.e m1.front)),.d (.sl (List.map PT.e m1.delta.from_)),.d (.sl (List.map PT.e m1.delta.to_)),.d (.sl (List.map EV.e m1.delta.events))])]⟩) (fun h=>?_) ?_
      ·(iterate 5 refine g5 ?_);refine xG (d:=81) h rfl (fun _ h=>?_) (fun _ h=>?_)
       ·(iterate 5 refine g5 ?_);refine xG (d:=86) h rfl (fun _ h=>?_) (fun _ h=>?_)
        ·(iterate 5 refine g5 ?_);refine xG (d:=91) h rfl (fun _ h=>?_) (fun _ h=>?_)
         ·(iterate 2 refine g5 ?_);refine wy (tl:=[(1,_),(91,_),(93,_)]) (to:=[(1,_)]) ?_;(iterate 8 refine g5 ?_);exact ⟨true,(),h,sP⟩
         ·(iterate 2 refine g5 ?_);refine wy (tl:=[(1,_),(91,_),(93,_)]) (to:=[(1,_)]) ?_;(iterate 2 refine g5 ?_);refine xG (d:=95) h rfl (fun _ h=>?_) (fun _ h=>?_)
          ·(iterate 6 refine g5 ?_);exact ⟨(!decide (m1.why = 0)),(),h,sP⟩
          ·(iterate 6 refine g5 ?_);exact ⟨false,(),h,sP⟩
        ·(iterate 8 refine g5 ?_);refine wy (tl:=[(1,_),(91,_),(94,_)]) (to:=[(1,_)]) ?_;refine g5 ?_;refine xG (d:=95) h rfl (fun _ h=>?_) (fun _ h=>?_)
         ·(iterate 6 refine g5 ?_);exact ⟨(!decide (m1.why = 0)),(),h,sP⟩
         ·(iterate 6 refine g5 ?_);exact ⟨false,(),h,sP⟩
       ·(iterate 14 refine g5 ?_);refine wy (tl:=[(1,_),(91,_),(95,_)]) (to:=[(1,_)]) ?_;refine xG (d:=95) h rfl (fun _ h=>?_) (fun _ h=>?_)
        ·(iterate 6 refine g5 ?_);exact ⟨(!decide (m1.why = 0)),(),h,sP⟩
        ·(iterate 6 refine g5 ?_);exact ⟨false,(),h,sP⟩
      ·rintro v30 _ h;refine xD h rfl (fun _ h=>?_) (fun _ h=>?_)
       ·(iterate 4 refine g5 ?_);refine wX ?_;cases h;exact xT
       ·(iterate 2 refine g5 ?_);refine wJ (zF h) (fun (has38:Bool) (_:Unit)=>⟨216,[(1,.ref 1 0),(4,.d (.v (.bool has38)))],[(1,.cells 32 [.d (.v (.int .u8 m1.kind)),.d (.v (.int .u8 m1.slot)),.d (.v (.int .u64 m1.try_)),.d (.v (.int .u16 m1.dev)),.d (.v (.int .u64 m1.epoch)),.d (.v (.int .u8 m1.why)),.d (.sl (List.map PT.e m1.have_)),.d (.sl (List.map PT.e m1.front)),.d (.sl (List.map PT.e m1.delta.from_)),.d (.sl (List.map PT.e m1.delta.to_)),.d (.sl (List.map EV.e m1.delta.events))])]⟩) (fun h=>?_) ?_
        ·(iterate 5 refine g5 ?_);refine xG (d:=104) h rfl (fun _ h=>?_) (fun _ h=>?_)
         ·(iterate 11 refine g5 ?_);exact ⟨true,(),h,sP⟩
         ·(iterate 4 refine g5 ?_);refine xG (d:=108) h rfl (fun _ h=>?_) (fun _ h=>?_)
          ·(iterate 7 refine g5 ?_);exact ⟨(decide (m1.kind <= 7)),(),h,sP⟩
          ·(iterate 7 refine g5 ?_);exact ⟨false,(),h,sP⟩
        ·rintro has38 _ h;(iterate 2 refine g5 ?_);refine wJ (zF h) (fun (v41:Bool) (_:Unit)=>⟨216,[(1,.ref 1 0),(148,.d (.v (.bool v41)))],[(1,.cells 32 [.d (.v (.int .u8 m1.kind)),.d (.v (.int .u8 m1.slot)),.d (.v (.int .u64 m1.try_)),.d (.v (.int .u16 m1.dev)),.d (.v (.int .u64 m1.epoch)),.d (.v (.int .u8 m1.why)),.d (.sl (List.map PT.e m1.have_)),.d (.sl (List.map PT.e m1.front)),.d (.sl (List.map PT.e m1.delta.from_)),.d (.sl (List.map PT.e m1.delta.to_)),.d (.sl (List.map EV.e m1.delta.events))])]⟩) (fun h=>?_) ?_
         ·refine g5 ?_;(iterate 3 refine h5 ?_);refine xQ (d:=116) h rfl (fun _ h=>?_) (fun _ h=>?_)
          ·(iterate 2 refine h5 ?_);refine qt (fun _ U W=>lM (enc:=PT.e) (L:=m1.have_) underlying27 U) ?_;(iterate 3 refine h5 ?_);refine xQ (d:=122) h rfl (fun _ h=>?_) (fun _ h=>?_)
           ·(iterate 24 refine h5 ?_);refine kK (tl:=[(1,_),(128,_),(137,_),(146,_)]) ?_;(iterate 3 refine h5 ?_);exact ⟨true,(),h,sP⟩
           ·(iterate 2 refine h5 ?_);obtain ⟨v44,hy45,h⟩:=zI h;refine qt (fun _ U W=>cN (wn m1.have_ v44 hy45) U call36 (vu (fun a b=>U a b) rfl rfl) rfl rfl rfl) ?_;(iterate 3 refine h5 ?_);refine xQ (d:=128) h rfl (fun _ h=>?_) (fun _ h=>?_)
            ·(iterate 17 refine h5 ?_);refine kK (tl:=[(1,_),(128,_),(137,_),(145,_)]) ?_;(iterate 4 refine h5 ?_);exact ⟨true,(),h,sP⟩
            ·(iterate 4 refine h5 ?_);refine xQ (d:=132) h rfl (fun _ h=>?_) (fun _ h=>?_)
             ·(iterate 11 refine h5 ?_);obtain ⟨v48,hy49,h⟩:=zI h;refine qt (fun _ U W=>cN (Yw m1.have_ m1.dev v48 hy49) U call37 (vu (fun a b=>U a b) rfl rfl) rfl rfl rfl)<|kK (tl:=[(1,_),(128,_),(137,_),(139,_),(144,_)]) ?_;obtain ⟨v50,hy51,h⟩:=zI h;refine qt (fun _ U W=>cN (xj m1.have_ v48 v50 hy51) U call31 (vu (fun a b=>U a b) rfl rfl) rfl rfl rfl) ?_;(iterate 4 refine h5 ?_);exact ⟨(!v50),(),h,sP⟩
             ·(iterate 5 refine h5 ?_);refine xQ (d:=137) h rfl (fun _ h=>?_) (fun _ h=>?_)
              ·(iterate 6 refine h5 ?_);refine kK (tl:=[(1,_),(128,_),(137,_),(139,_),(141,_),(143,_)]) ?_;obtain ⟨v53,hy54,h⟩:=zI h;refine qt (fun _ U W=>cN (Yw m1.have_ m1.dev v53 hy54) U call37 (vu (fun a b=>U a b) rfl rfl) rfl rfl rfl) ?_;obtain ⟨v55,hy56,h⟩:=zI h;refine qt (fun _ U W=>cN (xj m1.have_ v53 v55 hy56) U call31 (vu (fun a b=>U a b) rfl rfl) rfl rfl rfl) ?_;(iterate 4 refine h5 ?_);exact ⟨(!v55),(),h,sP⟩
              ·(iterate 6 refine h5 ?_);refine kK (tl:=[(1,_),(128,_),(137,_),(139,_),(141,_),(143,_)]) ?_;(iterate 6 refine h5 ?_);exact ⟨false,(),h,sP⟩
          ·(iterate 8 refine h5 ?_);obtain ⟨v57,hy58,h⟩:=zI h;refine qt (fun _ U W=>cN (wn m1.have_ v57 hy58) U call36 (vu (fun a b=>U a b) rfl rfl) rfl rfl rfl) ?_;(iterate 3 refine h5 ?_);refine xQ (d:=128) h rfl (fun _ h=>?_) (fun _ h=>?_)
           ·(iterate 18 refine h5 ?_);refine kK (tl:=[(1,_),(128,_),(137,_),(146,_)]) ?_;(iterate 3 refine h5 ?_);exact ⟨true,(),h,sP⟩
           ·(iterate 4 refine h5 ?_);refine xQ (d:=132) h rfl (fun _ h=>?_) (fun _ h=>?_)
            ·(iterate 11 refine h5 ?_);obtain ⟨v61,hy62,h⟩:=zI h;refine qt (fun _ U W=>cN (Yw m1.have_ m1.dev v61 hy62) U call37 (vu (fun a b=>U a b) rfl rfl) rfl rfl rfl) ?_;obtain ⟨v63,hy64,h⟩:=zI h;refine qt (fun _ U W=>cN (xj m1.have_ v61 v63 hy64) U call31 (vu (fun a b=>U a b) rfl rfl) rfl rfl rfl)<|kK (tl:=[(1,_),(128,_),(137,_),(145,_)]) ?_;(iterate 4 refine h5 ?_);exact ⟨(!v63),(),h,sP⟩
            ·(iterate 5 refine h5 ?_);refine xQ (d:=137) h rfl (fun _ h=>?_) (fun _ h=>?_)
             ·(iterate 6 refine h5 ?_);obtain ⟨v66,hy67,h⟩:=zI h;refine qt (fun _ U W=>cN (Yw m1.have_ m1.dev v66 hy67) U call37 (vu (fun a b=>U a b) rfl rfl) rfl rfl rfl)<|kK (tl:=[(1,_),(128,_),(137,_),(139,_),(144,_)]) ?_;obtain ⟨v68,hy69,h⟩:=zI h;refine qt (fun _ U W=>cN (xj m1.have_ v66 v68 hy69) U call31 (vu (fun a b=>U a b) rfl rfl) rfl rfl rfl) ?_;(iterate 4 refine h5 ?_);exact ⟨(!v68),(),h,sP⟩
             ·(iterate 7 refine h5 ?_);refine kK (tl:=[(1,_),(128,_),(137,_),(139,_),(144,_)]) ?_;(iterate 5 refine h5 ?_);exact ⟨false,(),h,sP⟩
         ·rintro v41 _ h;refine xD h rfl (fun _ h=>?_) (fun _ h=>?_)
          ·(iterate 4 refine g5 ?_);refine wX ?_;cases h;exact xT
          ·(iterate 3 refine g5 ?_);refine wJ (zF h) (fun (v71:Bool) (_:Unit)=>⟨216,[(1,.ref 1 0),(177,.d (.v (.bool v71)))],[(1,.cells 32 [.d (.v (.int .u8 m1.kind)),.d (.v (.int .u8 m1.slot)),.d (.v (.int .u64 m1.try_)),.d (.v (.int .u16 m1.dev)),.d (.v (.int .u64 m1.epoch)),.d (.v (.int .u8 m1.why)),.d (.sl (List.map PT.e m1.have_)),.d (.sl (List.map PT.e m1.front)),.d (.sl (List.map PT.e m1.delta.from_)),.d (.sl (List.map PT.e m1.delta.to_)),.d (.sl (List.map EV.e m1.delta.events))])]⟩) (fun h=>?_) ?_
           ·(iterate 5 refine g5 ?_);refine xG (d:=152) h rfl (fun _ h=>?_) (fun _ h=>?_)
            ·(iterate 6 refine g5 ?_);refine xG (d:=158) h rfl (fun _ h=>?_) (fun _ h=>?_)
             ·(iterate 7 refine g5 ?_);refine wy (tl:=[(1,_),(164,_),(165,_)]) (to:=[(1,_)]) ?_;(iterate 13 refine g5 ?_);exact ⟨true,(),h,sP⟩
             ·(iterate 2 refine g5 ?_);obtain ⟨v74,hy75,h⟩:=zI h;refine wt (cN (wn m1.front v74 hy75) rfl call36 rfl rfl rfl rfl) ?_;(iterate 3 refine g5 ?_);refine xG (d:=164) h rfl (fun _ h=>?_) (fun _ h=>?_)
              ·refine wy (tl:=[(1,_),(164,_)]) (to:=[(1,_)]) ?_;(iterate 14 refine g5 ?_);exact ⟨true,(),h,sP⟩
              ·refine wy (tl:=[(1,_),(164,_)]) (to:=[(1,_)]) ?_;(iterate 5 refine g5 ?_);obtain ⟨v77,hy78,h⟩:=zI h;refine wt (cN (Yx m1.front m1.delta.to_ v77 hy78) rfl call38 rfl rfl rfl rfl) ?_;(iterate 2 refine g5 ?_);refine xG (d:=172) h rfl (fun _ h=>?_) (fun _ h=>?_)
               ·(iterate 6 refine g5 ?_);exact ⟨(decide (m1.kind = 4)),(),h,sP⟩
               ·(iterate 6 refine g5 ?_);exact ⟨false,(),h,sP⟩
            ·(iterate 8 refine g5 ?_);obtain ⟨v80,hy81,h⟩:=zI h;refine wt (cN (wn m1.front v80 hy81) rfl call36 rfl rfl rfl rfl) ?_;(iterate 3 refine g5 ?_);refine xG (d:=164) h rfl (fun _ h=>?_) (fun _ h=>?_)
             ·refine g5 ?_;refine wy (tl:=[(1,_),(164,_),(165,_)]) (to:=[(1,_)]) ?_;(iterate 13 refine g5 ?_);exact ⟨true,(),h,sP⟩
             ·refine g5 ?_;refine wy (tl:=[(1,_),(164,_),(165,_)]) (to:=[(1,_)]) ?_;(iterate 4 refine g5 ?_);obtain ⟨v83,hy84,h⟩:=zI h;refine wt (cN (Yx m1.front m1.delta.to_ v83 hy84) rfl call38 rfl rfl rfl rfl) ?_;(iterate 2 refine g5 ?_);refine xG (d:=172) h rfl (fun _ h=>?_) (fun _ h=>?_)
              ·(iterate 6 refine g5 ?_);exact ⟨(decide (m1.kind = 4)),(),h,sP⟩
              ·(iterate 6 refine g5 ?_);exact ⟨false,(),h,sP⟩
           ·rintro v71 _ h;refine xD h rfl (fun _ h=>?_) (fun _ h=>?_)
            ·(iterate 4 refine g5 ?_);refine wX ?_;cases h;exact xT
            ·(iterate 13 refine g5 ?_);refine xD h rfl (fun _ h=>?_) (fun _ h=>?_)
             ·refine g5 ?_;refine wJ (zF h) (fun (v88:Bool) (_:Unit)=>⟨216,[(2,.d (.v (.bool v88)))],[]⟩) (fun h=>?_) ?_
              ·(iterate 3 refine g5 ?_);obtain ⟨v89,hy90,h⟩:=zI h;refine xN (Wz m1.delta v89 hy90) call39 ?_;refine g5 ?_;refine xG (d:=185) h rfl (fun _ h=>?_) (fun _ h=>?_)
               ·(iterate 8 refine g5 ?_);exact ⟨(decide ((m1.delta.from_.length:Int) = 0)),(),h,sP⟩
               ·(iterate 8 refine g5 ?_);exact ⟨false,(),h,sP⟩
              ·rintro v88 _ h;refine wX ?_;cases h;exact xT
             ·(iterate 5 refine g5 ?_);refine xD h rfl (fun _ h=>?_) (fun _ h=>?_)
              ·(iterate 4 refine g5 ?_);obtain ⟨v93,hy94,h⟩:=zI h;refine xN (Wz m1.delta v93 hy94) call39 ?_;(iterate 2 refine g5 ?_);refine wX ?_;cases h;exact xT
              ·(iterate 5 refine g5 ?_);refine xD h rfl (fun _ h=>?_) (fun _ h=>?_)
               ·refine g5 ?_;refine wJ (zF h) (fun (v96:Bool) (_:Unit)=>⟨216,[(2,.d (.v (.bool v96)))],[]⟩) (fun h=>?_) ?_
                ·(iterate 5 refine g5 ?_);obtain ⟨v97,hy98,h⟩:=zI h;refine xN (xNa m1.delta m1.dev v97 hy98) call40 ?_;refine g5 ?_;refine xG (d:=204) h rfl (fun _ h=>?_) (fun _ h=>?_)
                 ·(iterate 4 refine g5 ?_);refine wy (tl:=[(204,_),(206,_),(208,_)]) (to:=[(1,_)]) ?_;refine g5 ?_;obtain ⟨v100,hy101,h⟩:=zI h;refine wt (cN (qG m1.have_ m1.delta.events v100 hy101) rfl call41 rfl rfl rfl rfl) ?_;(iterate 4 refine g5 ?_);exact ⟨(!v100),(),h,sP⟩
                 ·(iterate 4 refine g5 ?_);refine wy (tl:=[(204,_),(206,_),(208,_)]) (to:=[]) ?_;(iterate 6 refine g5 ?_);exact ⟨false,(),h,sP⟩
                ·rintro v96 _ h;refine wX ?_;cases h;exact xT
               ·(iterate 5 refine g5 ?_);obtain ⟨v102,hy103,h⟩:=zI h;refine xN (xOa m1.delta v102 hy103) call42 ?_;(iterate 2 refine g5 ?_);refine wX ?_;cases h;exact xT

theorem xQa (c1:Int) (x2:Int) (r0:Int) (h:(jL c1 x2).wp (· = r0)):PFun prog 73 [.d (.v (.int .u32 c1)),.d (.v (.int .u8 x2))] (.d (.v (.int .u32 r0))):=by
 refine fI (sl:=[(0,_),(1,_)]) func73 rfl ntmps73 rfl rfl ?_;intro ctx hK;(iterate 8 refine g5 ?_);refine ws (LR.convInt underlying41 (by rw [underlying5];rfl) rfl rfl) ?_;(iterate 8 refine g5 ?_);refine wJ (zF h) (fun (c3:Int) (_:Unit)=>⟨24,[(0,.d (.v (.int .u32 c3)))],[]⟩) (fun h=>?_) ?_
 ·refine g5 ?_;refine wM (fun (⟨c12,i13⟩:Int × Int) (_:Unit)=>⟨24,[(0,.d (.v (.int .u32 c12))),(5,.d (.v (.int .i64 i13)))],[]⟩) () h (sP) ?_;rintro N ⟨c12,i13⟩ _ h;(iterate 6 refine g5 ?_);refine xD h rfl (fun _ h=>?_) (fun _ h=>?_)
  ·(iterate 2 refine g5 ?_);refine wJ (zF h) (fun (c15:Int) (_:Unit)=>⟨24,[(0,.d (.v (.int .u32 c15))),(5,.d (.v (.int .i64 i13)))],[]⟩) (fun h=>?_) ?_
   ·(iterate 18 refine g5 ?_);refine xD h rfl (fun _ h=>?_) (fun _ h=>?_)
    ·(iterate 5 refine g5 ?_);exact ⟨(VI .u32 (IntKind.u32.wrap (Int.tdiv c12 2)) 3988292384),(),h,sP⟩
    ·refine g5 ?_;exact ⟨(IntKind.u32.wrap (Int.tdiv c12 2)),(),h,sP⟩
   ·rintro c15 _ h;(iterate 5 refine g5 ?_);exact ⟨(c15,(IntKind.i64.wrap (i13 + 1))),(),h,sP⟩
  ·refine wZ ?_;exact ⟨c12,(),h,sP⟩
 ·rintro c3 _ h;(iterate 5 refine g5 ?_);refine wX ?_;cases h;exact xT


theorem xRa (sum1:Int) (b2:List Int) (r0:Int) (h:(VY sum1 b2).wp (· = r0)):PFun prog 30 [.d (.v (.int .u32 sum1)),.d (.sl (List.map (eK .u8) b2))] (.d (.v (.int .u32 r0))):=by
 refine fI (sl:=[(0,_),(1,_)]) func30 rfl ntmps30 rfl rfl ?_;intro ctx hK;(iterate 15 refine g5 ?_);refine wJ (zF h) (fun (c3:Int) (_:Unit)=>⟨23,[(5,.d (.v (.int .u32 c3)))],[]⟩) (fun h=>?_) ?_
 ·refine g5 ?_;refine wM (fun (⟨c16,i17⟩:Int × Int) (_:Unit)=>⟨23,[(1,.d (.sl (List.map (eK .u8) b2))),(5,.d (.v (.int .u32 c16))),(6,.d (.v (.int .i64 i17)))],[]⟩) () h (sP) ?_;rintro N ⟨c16,i17⟩ _ h;(iterate 8 refine g5 ?_);refine xD h rfl (fun _ h=>?_) (fun _ h=>?_)
  ·(iterate 7 refine g5 ?_);obtain ⟨x19,hy20,h⟩:=yF h;refine ws (iX (enc:=(eK .u8)) (L:=b2) (y:=x19) underlying22 sizeOf5 rfl rfl hy20 (fun _=>rfl)) ?_;refine g5 ?_;obtain ⟨v21,hy22,h⟩:=zI h;refine xN (xQa c16 x19 v21 hy22) call73 ?_;(iterate 7 refine g5 ?_);exact ⟨(v21,(IntKind.i64.wrap (i17 + 1))),(),h,sP⟩
  ·refine wZ ?_;exact ⟨c16,(),h,sP⟩
 ·rintro c3 _ h;(iterate 6 refine g5 ?_);refine wX ?_;cases h;exact xT

theorem JM (kind1:Int) (body2:List Int) (r0:List Int) (h:(WO kind1 body2).wp (· = r0)):PRow prog 9 [.d (.v (.int .u8 kind1)),.d (.sl (List.map (eK .u8) body2))] 5 1 (List.map (eK .u8) r0):=by
 refine PRow.intro (sl:=[(0,_),(1,_)]) func9 rfl ntmps9 rfl rfl ?_;intro ctx hK;(iterate 2 refine g5 ?_);refine ws (aR 5 1 rfl) ?_;(iterate 4 refine g5 ?_);refine ws (LR.buildSlice [.tmp 8] xe rfl rfl (.cons rfl rfl rfl<|.nil) (by decide) (by decide) rfl) ?_;refine g5 ?_;obtain ⟨hy3,h⟩:=zm h;refine ws (LR.appT (enc:=(eK .u8)) (L:=[kind1]) (R:=body2) [9] xe underlying22 rfl (by first | (simp;done) | (simp;omega) | omega) rfl (Src.slT (enc:=(eK .u8)) (R:=body2) rfl (fun _=>rfl)) (fun _=>rfl) hy3 rfl rfl) ?_;(iterate 5 refine g5 ?_);obtain ⟨v4,hy5,h⟩:=zI h;refine ws (LR.callLend (xRa 0 ([kind1] ++ body2) v4 hy5) rfl call30 rfl (.data rfl rfl<|.row rfl (by simp)<|.nil)) ?_;(iterate 7 refine g5 ?_);refine wJ (zF h) (fun (v6:List Int) (_:Unit)=>⟨27,[(5,.row 9 (v6.length))],[(9,.row 5 1 (List.map (eK .u8) v6))]⟩) (fun h=>?_) ?_
 ·refine g5 ?_;refine wM (fun (⟨c14,i15,v16⟩:Int × Int × List Int) (_:Unit)=>⟨27,[(5,.row 9 (v16.length)),(6,.d (.v (.int .u32 c14))),(7,.d (.v (.int .i64 i15)))],[(9,.row 5 1 (List.map (eK .u8) v16))]⟩) () h (sP) ?_;rintro N ⟨c14,i15,v16⟩ _ h;(iterate 6 refine g5 ?_);refine xD h rfl (fun _ h=>?_) (fun _ h=>?_)
  ·(iterate 8 refine g5 ?_);refine ws (LR.convInt underlying5 (by rw [underlying41];rfl) rfl rfl) ?_;refine ws (LR.buildSliceD [.tmp 21] xe rfl rfl (.cons rfl rfl rfl<|.nil) (by decide) (by decide)) ?_;obtain ⟨hy18,h⟩:=zm h;refine ws (LR.appT (enc:=(eK .u8)) (L:=v16) (R:=[(IntKind.u8.wrap (Int.tmod c14 256))]) [5,18] xe underlying22 rfl rfl rfl (Src.slT (enc:=(eK .u8)) (R:=[(IntKind.u8.wrap (Int.tmod c14 256))]) rfl (fun _=>rfl)) (fun _=>rfl) hy18 rfl rfl) ?_;(iterate 12 refine g5 ?_);exact ⟨((IntKind.u32.wrap (Int.tdiv c14 256)),(IntKind.i64.wrap (i15 + 1)),(v16 ++ [(IntKind.u8.wrap (Int.tmod c14 256))])),(),h,sO rfl (.cons rfl (by first | rfl | (simp;done) | (congr 1;first | (simp;done) | (simp;omega) | omega))<|.c2 rfl rfl rfl rfl<|.nil) (.cons rfl rfl<|.nil)⟩
  ·refine wZ ?_;exact ⟨v16,(),h,sP⟩
 ·rintro v6 _ h;(iterate 5 refine g5 ?_);refine wX ?_;cases h;exact ⟨.inr rfl,4,rfl,.inr ⟨9,_,rfl,(by simp),rfl⟩⟩

theorem xSa (b1:List Int) (r0:Int × List Int × Int) (h:(jM b1).wp (· = r0)):PFun prog 21 [.d (.sl (List.map (eK .u8) b1))] (.tup [.d (.v (.int .u8 r0.1)),.d (.sl (List.map (eK .u8) r0.2.1)),.d (.v (.int .i64 r0.2.2))]):=by
 refine fI (sl:=[(0,_)]) func21 rfl ntmps21 rfl rfl ?_;intro ctx hK;(iterate 3 refine g5 ?_);refine ws (aR 5 1 rfl) ?_;(iterate 9 refine g5 ?_);refine xD h rfl (fun _ h=>?_) (fun _ h=>?_)
 ·(iterate 3 refine g5 ?_);refine wy (tl:=[(0,_),(2,_),(4,_),(6,_),(7,_),(8,_)]) (to:=[]) ?_;refine ws (aR 5 1 rfl) ?_;(iterate 2 refine g5 ?_);refine wX ?_;cases h;exact ⟨.inr rfl,_,.cons (.tmp rfl rfl)<|.cons (.row rfl rfl (by first | (simp;done) | (simp;omega) | omega))<|.cons (.tmp rfl rfl)<|.nil,rfl⟩
 ·(iterate 8 refine g5 ?_);obtain ⟨hy3,h⟩:=zm h;refine ws (LR.cutT (enc:=(eK .u8)) (L:=b1) underlying22 sizeOf5 rfl (fun _=>rfl) rfl rfl hy3) ?_;obtain ⟨hy4,h⟩:=zm h;refine ws (LR.appT (enc:=(eK .u8)) (L:=([]:List Int)) (R:=(List.drop (Int.toNat 1) (List.take (Int.toNat ((IntKind.i64.wrap ((b1.length:Int) - 4)))) b1))) [9] xe underlying22 rfl (by first | (simp;done) | (simp;omega) | omega) rfl (Src.slT (enc:=(eK .u8)) (R:=(List.drop (Int.toNat 1) (List.take (Int.toNat ((IntKind.i64.wrap ((b1.length:Int) - 4)))) b1))) rfl (fun _=>rfl)) (fun _=>rfl) hy4 rfl rfl) ?_;(iterate 4 refine g5 ?_);refine PWc.frz [5,15] hK (.cons rfl<|.cons rfl<|.nil) rfl (by first | (simp;done) | (simp;omega) | omega) ?_;refine g5 ?_;refine h5 ?_;obtain ⟨x5,hy6,h⟩:=yF h;refine qs (fun _ U W=>iX (enc:=(eK .u8)) (L:=b1) (y:=x5) underlying22 sizeOf5 U U hy6 (fun _=>rfl)) ?_;(iterate 2 refine h5 ?_);obtain ⟨v7,hy8,h⟩:=zI h;refine qs (fun _ U W=>cN (PRow.fun (JM x5 ((([]:List Int) ++ (List.drop (Int.toNat 1) (List.take (Int.toNat ((IntKind.i64.wrap ((b1.length:Int) - 4)))) b1)))) v7 hy8)) U call9 (vu (fun a b=>U a b) rfl rfl) rfl rfl rfl) ?_;(iterate 5 refine h5 ?_);refine xD h rfl (fun _ h=>?_) (fun _ h=>?_)
  ·(iterate 2 refine g5 ?_);refine wy (tl:=[(2,_),(3,_),(4,_)]) (to:=[(3,_)]) ?_;refine g5 ?_;refine wy (tl:=[(2,_),(4,_)]) (to:=[]) ?_;refine ws (aR 5 1 rfl) ?_;(iterate 2 refine g5 ?_);refine wX ?_;cases h;exact ⟨.inr rfl,_,.cons (.tmp rfl rfl)<|.cons (.row rfl rfl (by first | (simp;done) | (simp;omega) | omega))<|.cons (.tmp rfl rfl)<|.nil,rfl⟩
  ·(iterate 3 refine g5 ?_);refine wy (tl:=[(0,_),(2,_),(3,_),(4,_),(5,_)]) (to:=[(3,_)]) ?_;refine g5 ?_;obtain ⟨x10,hy11,h⟩:=yF h;refine ws (iX (enc:=(eK .u8)) (L:=b1) (y:=x10) underlying22 sizeOf5 rfl rfl hy11 (fun _=>rfl)) ?_;(iterate 3 refine g5 ?_);refine wy (tl:=[(0,_),(2,_),(4,_),(5,_),(25,_),(26,_),(27,_),(28,_)]) (to:=[]) ?_;(iterate 3 refine g5 ?_);refine wX ?_;cases h;exact ⟨.inr rfl,_,.cons (.tmp rfl rfl)<|.cons (.tmp rfl rfl)<|.cons (.tmp rfl rfl)<|.nil,rfl⟩

theorem xTa (b1:List Int) (at2:Int) (r0:Int × Int × Int) (h:(jN b1 at2).wp (· = r0)):PFun prog 69 [.d (.sl (List.map (eK .u8) b1)),.d (.v (.int .i64 at2))] (.tup [.d (.v (.int .u64 r0.1)),.d (.v (.int .i64 r0.2.1)),.d (.v (.int .i64 r0.2.2))]):=by
 refine fI (sl:=[(0,_),(1,_)]) func69 rfl ntmps69 rfl rfl ?_;intro ctx hK;(iterate 8 refine g5 ?_);refine wJ (zF h) (fun (v3:Bool) (_:Unit)=>⟨74,[(0,.d (.sl (List.map (eK .u8) b1))),(1,.d (.v (.int .i64 at2))),(18,.d (.v (.bool v3)))],[]⟩) (fun h=>?_) ?_
 ·(iterate 4 refine g5 ?_);refine xG (d:=13) h rfl (fun _ h=>?_) (fun _ h=>?_)
  ·(iterate 6 refine g5 ?_);exact ⟨true,(),h,sP⟩
  ·(iterate 6 refine g5 ?_);exact ⟨(decide ((b1.length:Int) < at2)),(),h,sP⟩
 ·rintro v3 _ h;refine xD h rfl (fun _ h=>?_) (fun _ h=>?_)
  ·(iterate 6 refine g5 ?_);refine wX ?_;cases h;exact ⟨.inr rfl,_,.cons (.tmp rfl rfl)<|.cons (.tmp rfl rfl)<|.cons (.tmp rfl rfl)<|.nil,rfl⟩
  ·(iterate 9 refine g5 ?_);refine xD h rfl (fun _ h=>?_) (fun _ h=>?_)
   ·(iterate 6 refine g5 ?_);refine wX ?_;cases h;exact ⟨.inr rfl,_,.cons (.tmp rfl rfl)<|.cons (.tmp rfl rfl)<|.cons (.tmp rfl rfl)<|.nil,rfl⟩
   ·(iterate 5 refine g5 ?_);obtain ⟨x7,hy8,h⟩:=yF h;refine ws (iX (enc:=(eK .u8)) (L:=b1) (y:=x7) underlying22 sizeOf5 rfl rfl hy8 (fun _=>rfl)) ?_;refine g5 ?_;refine ws (LR.convInt underlying3 (by rw [underlying5];rfl) rfl rfl) ?_;(iterate 13 refine g5 ?_);refine wJ (zF h) (fun (v9:Bool) (_:Unit)=>⟨74,[(0,.d (.sl (List.map (eK .u8) b1))),(1,.d (.v (.int .i64 at2))),(7,.d (.v (.int .i64 (IntKind.i64.wrap x7)))),(8,.d (.v (.int .i64 ((IntKind.i64.wrap (((IntKind.i64.wrap ((b1.length:Int) - at2))) - 1)))))),(50,.d (.v (.bool v9)))],[]⟩) (fun h=>?_) ?_
    ·(iterate 3 refine g5 ?_);refine wy (tl:=[(0,_),(1,_),(7,_),(8,_),(34,_)]) (to:=[]) ?_;refine g5 ?_;refine xG (d:=35) h rfl (fun _ h=>?_) (fun _ h=>?_)
     ·(iterate 14 refine g5 ?_);refine wy (tl:=[(0,_),(1,_),(7,_),(8,_),(35,_),(49,_)]) (to:=[]) ?_;(iterate 2 refine g5 ?_);exact ⟨true,(),h,sP⟩
     ·(iterate 3 refine g5 ?_);refine xG (d:=38) h rfl (fun _ h=>?_) (fun _ h=>?_)
      ·(iterate 4 refine g5 ?_);refine xG (d:=42) h rfl (fun _ h=>?_) (fun _ h=>?_)
       ·(iterate 3 refine g5 ?_);obtain ⟨x13,hy14,h⟩:=yF h;refine wt (iX (enc:=(eK .u8)) (L:=b1) (y:=x13) underlying22 sizeOf5 rfl rfl hy14 (fun _=>rfl)) ?_;refine g5 ?_;refine wy (tl:=[(0,_),(1,_),(7,_),(8,_),(35,_),(42,_),(47,_)]) (to:=[]) ?_;(iterate 4 refine g5 ?_);exact ⟨(decide (x13 = 0)),(),h,sP⟩
       ·(iterate 5 refine g5 ?_);refine wy (tl:=[(0,_),(1,_),(7,_),(8,_),(35,_),(42,_),(47,_)]) (to:=[]) ?_;(iterate 4 refine g5 ?_);exact ⟨false,(),h,sP⟩
      ·(iterate 10 refine g5 ?_);refine wy (tl:=[(0,_),(1,_),(7,_),(8,_),(35,_),(42,_),(48,_)]) (to:=[]) ?_;(iterate 3 refine g5 ?_);exact ⟨false,(),h,sP⟩
    ·rintro v9 _ h;refine xD h rfl (fun _ h=>?_) (fun _ h=>?_)
     ·(iterate 6 refine g5 ?_);refine wX ?_;cases h;exact ⟨.inr rfl,_,.cons (.tmp rfl rfl)<|.cons (.tmp rfl rfl)<|.cons (.tmp rfl rfl)<|.nil,rfl⟩
     ·(iterate 8 refine g5 ?_);refine xD h rfl (fun _ h=>?_) (fun _ h=>?_)
      ·(iterate 6 refine g5 ?_);refine wX ?_;cases h;exact ⟨.inr rfl,_,.cons (.tmp rfl rfl)<|.cons (.tmp rfl rfl)<|.cons (.tmp rfl rfl)<|.nil,rfl⟩
      ·(iterate 10 refine g5 ?_);refine wJ (zF h) (fun (v17:Int) (_:Unit)=>⟨74,[(1,.d (.v (.int .i64 at2))),(7,.d (.v (.int .i64 (IntKind.i64.wrap x7)))),(9,.d (.v (.int .u64 v17)))],[]⟩) (fun h=>?_) ?_
       ·refine g5 ?_;refine wM (fun (⟨v26,i27⟩:Int × Int) (_:Unit)=>⟨74,[(0,.d (.sl (List.map (eK .u8) b1))),(1,.d (.v (.int .i64 at2))),(7,.d (.v (.int .i64 (IntKind.i64.wrap x7)))),(9,.d (.v (.int .u64 v26))),(10,.d (.v (.int .i64 i27)))],[]⟩) () h (sP) ?_;rintro N ⟨v26,i27⟩ _ h;(iterate 7 refine g5 ?_);refine xD h rfl (fun _ h=>?_) (fun _ h=>?_)
        ·(iterate 10 refine g5 ?_);obtain ⟨x29,hy30,h⟩:=yF h;refine ws (iX (enc:=(eK .u8)) (L:=b1) (y:=x29) underlying22 sizeOf5 rfl rfl hy30 (fun _=>rfl)) ?_;refine g5 ?_;refine ws (LR.convInt underlying24 (by rw [underlying5];rfl) rfl rfl) ?_;(iterate 6 refine g5 ?_);refine wy (tl:=[(0,_),(1,_),(7,_),(9,_),(10,_),(58,_)]) (to:=[]) ?_;(iterate 2 refine g5 ?_);exact ⟨((IntKind.u64.wrap ((IntKind.u64.wrap (v26 * 256)) + (IntKind.u64.wrap x29))),(IntKind.i64.wrap (i27 + 1))),(),h,sP⟩
        ·refine wZ ?_;exact ⟨v26,(),h,sP⟩
       ·rintro v17 _ h;(iterate 11 refine g5 ?_);refine wX ?_;cases h;exact ⟨.inr rfl,_,.cons (.tmp rfl rfl)<|.cons (.tmp rfl rfl)<|.cons (.tmp rfl rfl)<|.nil,rfl⟩

theorem zG (e1:Int) (b_2:List Int) (at_3:Int) (bad_4:Int) (r0:List Int × Int × Int) (h:(zC e1 b_2 at_3 bad_4).wp (· = r0)):PObj prog 29 [.ref 100 0,.d (.v (.int .i64 e1))] [(100,.cells 59 [.d (.sl (List.map (eK .u8) b_2)),.d (.v (.int .i64 at_3)),.d (.v (.int .i64 bad_4))])] [100] (.tup []) (fun _:Unit=>[(100,.cells 59 [.d (.sl (List.map (eK .u8) r0.1)),.d (.v (.int .i64 r0.2.1)),.d (.v (.int .i64 r0.2.2))])]):=by
 refine PObj.intro (sl:=[(0,_),(1,_)]) func29 rfl ntmps29 rfl rfl rfl ?_;intro ctx hK pv;(iterate 8 refine g5 ?_);refine xD h rfl (fun _ h=>?_) (fun _ h=>?_)
 ·(iterate 7 refine g5 ?_);cases h;exact EndsO.mk () (.inl rfl) (sP (tl:=[]) (to:=[(100,_),(1100,_)])) (.nil) rfl rfl
 ·refine g5 ?_;cases h;exact EndsO.mk () (.inl rfl) (sP (tl:=[]) (to:=[(100,_),(1100,_)])) (.nil) rfl rfl


theorem yB (b_1:List Int) (at_2:Int) (bad_3:Int) (r0:Int × List Int × Int × Int) (h:(zQ b_1 at_2 bad_3).wp (· = r0)):PObj prog 22 [.ref 100 0] [(100,.cells 59 [.d (.sl (List.map (eK .u8) b_1)),.d (.v (.int .i64 at_2)),.d (.v (.int .i64 bad_3))])] [100] (.d (.v (.int .u8 r0.1))) (fun _:Unit=>[(100,.cells 59 [.d (.sl (List.map (eK .u8) r0.2.1)),.d (.v (.int .i64 r0.2.2.1)),.d (.v (.int .i64 r0.2.2.2))])]):=by
 refine PObj.intro (sl:=[(0,_)]) func22 rfl ntmps22 rfl rfl rfl ?_;intro ctx hK pv;(iterate 13 refine g5 ?_);refine xD h rfl (fun _ h=>?_) (fun _ h=>?_)
 ·(iterate 4 refine g5 ?_);refine wX ?_;cases h;exact EndsO.mk () (.inr rfl) (sP (tl:=[(2,_)]) (to:=[(100,_),(1100,_)])) (.cons (.tmp rfl)<|.nil) rfl rfl
 ·(iterate 4 refine g5 ?_);(iterate 8 refine h5 ?_);refine qs (fun _ U W=>lM (enc:=(eK .u8)) (L:=b_1) underlying22 U) ?_;(iterate 2 refine h5 ?_);refine xD h rfl (fun _ h=>?_) (fun _ h=>?_)
  ·(iterate 3 refine g5 ?_);obtain ⟨y6,hy7,h⟩:=zI h;refine xO [(100,100)] [] [100] (zG 2 b_1 at_2 bad_3 y6 hy7) call29 ?_;(iterate 2 refine g5 ?_);refine wz (tl:=[]) (to:=[(100,_),(1100,_)]) ?_;(iterate 3 refine g5 ?_);refine wX ?_;cases h;exact EndsO.mk () (.inr rfl) (sP (tl:=[(2,_)]) (to:=[(100,_),(1100,_)])) (.cons (.tmp rfl)<|.nil) rfl rfl
  ·(iterate 7 refine g5 ?_);refine wy (tl:=[(0,_),(20,_),(23,_)]) (to:=[(100,_),(1100,_)]) ?_;(iterate 8 refine g5 ?_);(iterate 9 refine h5 ?_);obtain ⟨x8,hy9,h⟩:=yF h;refine qs (fun _ U W=>iX (enc:=(eK .u8)) (L:=b_1) (y:=x8) underlying22 sizeOf5 U U hy9 (fun _=>rfl)) ?_;(iterate 3 refine h5 ?_);refine wX ?_;cases h;exact EndsO.mk () (.inr rfl) (sP (tl:=[(2,_)]) (to:=[(100,_),(1100,_)])) (.cons (.tmp rfl)<|.nil) rfl rfl

theorem zK (b_1:List Int) (at_2:Int) (bad_3:Int) (r0:Int × List Int × Int × Int) (h:(zE b_1 at_2 bad_3).wp (· = r0)):PObj prog 23 [.ref 100 0] [(100,.cells 59 [.d (.sl (List.map (eK .u8) b_1)),.d (.v (.int .i64 at_2)),.d (.v (.int .i64 bad_3))])] [100] (.d (.v (.int .u64 r0.1))) (fun _:Unit=>[(100,.cells 59 [.d (.sl (List.map (eK .u8) r0.2.1)),.d (.v (.int .i64 r0.2.2.1)),.d (.v (.int .i64 r0.2.2.2))])]):=by
 refine PObj.intro (sl:=[(0,_)]) func23 rfl ntmps23 rfl rfl rfl ?_;intro ctx hK pv;(iterate 13 refine g5 ?_);refine xD h rfl (fun _ h=>?_) (fun _ h=>?_)
 ·(iterate 4 refine g5 ?_);refine wX ?_;cases h;exact EndsO.mk () (.inr rfl) (sP (tl:=[(2,_)]) (to:=[(100,_),(1100,_)])) (.cons (.tmp rfl)<|.nil) rfl rfl
 ·(iterate 3 refine g5 ?_);(iterate 8 refine h5 ?_);obtain ⟨v5,hy6,h⟩:=zI h;refine qs (fun _ U W=>cN (xTa b_1 at_2 v5 hy6) U call69 (vu (fun a b=>U a b) rfl rfl) rfl rfl rfl) ?_;(iterate 8 refine h5 ?_);(iterate 3 refine g5 ?_);refine wy (tl:=[(0,_),(3,_),(4,_),(5,_)]) (to:=[(100,_),(1100,_)]) ?_;(iterate 3 refine g5 ?_);refine xD h rfl (fun _ h=>?_) (fun _ h=>?_)
  ·(iterate 4 refine g5 ?_);obtain ⟨y8,hy9,h⟩:=zI h;refine xO [(100,100)] [] [100] (zG v5.2.2 b_1 at_2 bad_3 y8 hy9) call29 ?_;(iterate 2 refine g5 ?_);refine wz (tl:=[]) (to:=[(100,_),(1100,_)]) ?_;(iterate 3 refine g5 ?_);refine wX ?_;cases h;exact EndsO.mk () (.inr rfl) (sP (tl:=[(2,_)]) (to:=[(100,_),(1100,_)])) (.cons (.tmp rfl)<|.nil) rfl rfl
  ·(iterate 14 refine g5 ?_);refine wX ?_;cases h;exact EndsO.mk () (.inr rfl) (sP (tl:=[(2,_)]) (to:=[(100,_),(1100,_)])) (.cons (.tmp rfl)<|.nil) rfl rfl

theorem yS (most1:Int) (b_2:List Int) (at_3:Int) (bad_4:Int) (r0:Int × List Int × Int × Int) (h:(zY most1 b_2 at_3 bad_4).wp (· = r0)):PObj prog 24 [.ref 100 0,.d (.v (.int .u64 most1))] [(100,.cells 59 [.d (.sl (List.map (eK .u8) b_2)),.d (.v (.int .i64 at_3)),.d (.v (.int .i64 bad_4))])] [100] (.d (.v (.int .u64 r0.1))) (fun _:Unit=>[(100,.cells 59 [.d (.sl (List.map (eK .u8) r0.2.1)),.d (.v (.int .i64 r0.2.2.1)),.d (.v (.int .i64 r0.2.2.2))])]):=by
 refine PObj.intro (sl:=[(0,_),(1,_)]) func24 rfl ntmps24 rfl rfl rfl ?_;intro ctx hK pv;(iterate 7 refine g5 ?_);obtain ⟨y5,hy6,h⟩:=zI h;refine xO [(100,100)] [] [100] (zK b_2 at_3 bad_4 y5 hy6) call23 ?_;(iterate 4 refine g5 ?_);refine wz (tl:=[(0,_),(1,_),(5,_)]) (to:=[(100,_),(1100,_)]) ?_;(iterate 5 refine g5 ?_);refine xD h rfl (fun _ h=>?_) (fun _ h=>?_)
 ·(iterate 3 refine g5 ?_);obtain ⟨y8,hy9,h⟩:=zI h;refine xO [(100,100)] [] [100] (zG 4 y5.2.1 y5.2.2.1 y5.2.2.2 y8 hy9) call29 ?_;(iterate 2 refine g5 ?_);refine wz (tl:=[]) (to:=[(100,_),(1100,_)]) ?_;(iterate 3 refine g5 ?_);refine wX ?_;cases h;exact EndsO.mk () (.inr rfl) (sP (tl:=[(4,_)]) (to:=[(100,_),(1100,_)])) (.cons (.tmp rfl)<|.nil) rfl rfl
 ·(iterate 6 refine g5 ?_);refine wX ?_;cases h;exact EndsO.mk () (.inr rfl) (sP (tl:=[(4,_)]) (to:=[(100,_),(1100,_)])) (.cons (.tmp rfl)<|.nil) rfl rfl

theorem Zg (b_1:List Int) (at_2:Int) (bad_3:Int) (r0:List PT × List Int × Int × Int) (h:(ZC b_1 at_2 bad_3).wp (· = r0)):PObj prog 25 [.ref 100 0] [(100,.cells 59 [.d (.sl (List.map (eK .u8) b_1)),.d (.v (.int .i64 at_2)),.d (.v (.int .i64 bad_3))])] [100] (.d (.sl (List.map PT.e r0.1))) (fun _:Unit=>[(100,.cells 59 [.d (.sl (List.map (eK .u8) r0.2.1)),.d (.v (.int .i64 r0.2.2.1)),.d (.v (.int .i64 r0.2.2.2))])]):=by
 refine PObj.intro (sl:=[(0,_)]) func25 rfl ntmps25 rfl rfl rfl ?_;intro ctx hK pv;(iterate 2 refine g5 ?_);refine ws (aR 101 2 rfl) ?_;(iterate 3 refine g5 ?_);refine ws (aR 101 2 rfl) ?_;(iterate 4 refine g5 ?_);obtain ⟨y4,hy5,h⟩:=zI h;refine xO [(100,100)] [] [100] (zK b_1 at_2 bad_3 y4 hy5) call23 ?_;(iterate 4 refine g5 ?_);refine wz (tl:=[(0,_),(3,_),(4,_)]) (to:=[(3,_),(100,_),(1100,_)]) ?_;(iterate 3 refine g5 ?_);refine wJ (zF h) (fun (⟨out6,v7,v8,v9⟩:List PT × List Int × Int × Int) (_:Unit)=>⟨77,[(0,.ref 100 0),(3,.row 3 (out6.length))],[(3,.row 101 2 (List.map PT.e out6)),(100,.cells 59 [.d (.sl (List.map (eK .u8) v7)),.d (.v (.int .i64 v8)),.d (.v (.int .i64 v9))]),(1100,.pin 100 (pv 100))]⟩) (fun h=>?_) ?_
 ·refine g5 ?_;refine wM (fun (⟨i121,out122,v123,v124,v125⟩:Int × List PT × List Int × Int × Int) (_:Unit)=>⟨77,[(0,.ref 100 0),(3,.row 3 (out122.length)),(4,.d (.v (.int .u64 y4.1))),(5,.d (.v (.int .u64 i121)))],[(3,.row 101 2 (List.map PT.e out122)),(100,.cells 59 [.d (.sl (List.map (eK .u8) v123)),.d (.v (.int .i64 v124)),.d (.v (.int .i64 v125))]),(1100,.pin 100 (pv 100))]⟩) () h (sP) ?_;rintro N ⟨i121,out122,v123,v124,v125⟩ _ h;(iterate 2 refine g5 ?_);refine wJ (zF h) (fun (v126:Bool) (_:Unit)=>⟨77,[(0,.ref 100 0),(3,.row 3 (out122.length)),(4,.d (.v (.int .u64 y4.1))),(5,.d (.v (.int .u64 i121))),(21,.d (.v (.bool v126)))],[(3,.row 101 2 (List.map PT.e out122)),(100,.cells 59 [.d (.sl (List.map (eK .u8) v123)),.d (.v (.int .i64 v124)),.d (.v (.int .i64 v125))]),(1100,.pin 100 (pv 100))]⟩) (fun h=>?_) ?_
  ·(iterate 5 refine g5 ?_);refine xG (d:=15) h rfl (fun _ h=>?_) (fun _ h=>?_)
   ·(iterate 7 refine g5 ?_);exact ⟨(decide (v125 = 0)),(),h,sP⟩
   ·(iterate 7 refine g5 ?_);exact ⟨false,(),h,sP⟩
  ·rintro v126 _ h;refine xD h rfl (fun _ h=>?_) (fun _ h=>?_)
   ·(iterate 2 refine g5 ?_);refine wJ (zF h) (fun (⟨out129,v130,v131,v132⟩:List PT × List Int × Int × Int) (_:Unit)=>⟨77,[(0,.ref 100 0),(3,.row 3 (out129.length)),(4,.d (.v (.int .u64 y4.1))),(5,.d (.v (.int .u64 i121)))],[(3,.row 101 2 (List.map PT.e out129)),(100,.cells 59 [.d (.sl (List.map (eK .u8) v130)),.d (.v (.int .i64 v131)),.d (.v (.int .i64 v132))]),(1100,.pin 100 (pv 100))]⟩) (fun h=>?_) ?_
    ·(iterate 4 refine g5 ?_);obtain ⟨y133,hy134,h⟩:=zI h;refine xO [(100,100)] [] [100] (yS 65535 v123 v124 v125 y133 hy134) call24 ?_;refine ws (LR.convInt underlying25 (by rw [underlying24];rfl) rfl rfl) ?_;refine ws (LR.build (ns:=[_,_]) Xo rfl rfl rfl) ?_;(iterate 4 refine g5 ?_);refine wz (tl:=[(0,_),(3,_),(4,_),(5,_),(6,_)]) (to:=[(3,_),(6,_),(100,_),(1100,_)]) ?_;(iterate 2 refine g5 ?_);obtain ⟨y135,hy136,h⟩:=zI h;refine xO [(100,100)] [] [100] (zK y133.2.1 y133.2.2.1 y133.2.2.2 y135 hy136) call23 ?_;(iterate 4 refine g5 ?_);refine wz (tl:=[(0,_),(3,_),(4,_),(5,_),(6,_),(7,_)]) (to:=[(3,_),(6,_),(100,_),(1100,_)]) ?_;(iterate 3 refine g5 ?_);refine wJ (zF h) (fun (⟨p137,v138,v139,v140⟩:List RN × List Int × Int × Int) (_:Unit)=>⟨77,[(0,.ref 100 0),(3,.row 3 (out122.length)),(4,.d (.v (.int .u64 y4.1))),(5,.d (.v (.int .u64 i121))),(6,.ref 6 0)],[(3,.row 101 2 (List.map PT.e out122)),(6,.cells 101 [.d (.v (.int .u16 (IntKind.u16.wrap y133.1))),.d (.sl (List.map RN.e p137))]),(100,.cells 59 [.d (.sl (List.map (eK .u8) v138)),.d (.v (.int .i64 v139)),.d (.v (.int .i64 v140))]),(1100,.pin 100 (pv 100))]⟩) (fun h=>?_) ?_
     ·refine g5 ?_;refine wM (fun (⟨k164,p165,v166,v167,v168⟩:Int × List RN × List Int × Int × Int) (_:Unit)=>⟨77,[(0,.ref 100 0),(3,.row 3 (out122.length)),(4,.d (.v (.int .u64 y4.1))),(5,.d (.v (.int .u64 i121))),(6,.ref 6 0),(7,.d (.v (.int .u64 y135.1))),(8,.d (.v (.int .u64 k164)))],[(3,.row 101 2 (List.map PT.e out122)),(6,.cells 101 [.d (.v (.int .u16 (IntKind.u16.wrap y133.1))),.d (.sl (List.map RN.e p165))]),(100,.cells 59 [.d (.sl (List.map (eK .u8) v166)),.d (.v (.int .i64 v167)),.d (.v (.int .i64 v168))]),(1100,.pin 100 (pv 100))]⟩) () h (sP) ?_;rintro N ⟨k164,p165,v166,v167,v168⟩ _ h;(iterate 2 refine g5 ?_);refine wJ (zF h) (fun (v169:Bool) (_:Unit)=>⟨77,[(0,.ref 100 0),(3,.row 3 (out122.length)),(4,.d (.v (.int .u64 y4.1))),(5,.d (.v (.int .u64 i121))),(6,.ref 6 0),(7,.d (.v (.int .u64 y135.1))),(8,.d (.v (.int .u64 k164))),(39,.d (.v (.bool v169)))],[(3,.row 101 2 (List.map PT.e out122)),(6,.cells 101 [.d (.v (.int .u16 (IntKind.u16.wrap y133.1))),.d (.sl (List.map RN.e p165))]),(100,.cells 59 [.d (.sl (List.map (eK .u8) v166)),.d (.v (.int .i64 v167)),.d (.v (.int .i64 v168))]),(1100,.pin 100 (pv 100))]⟩) (fun h=>?_) ?_
      ·(iterate 5 refine g5 ?_);refine xG (d:=33) h rfl (fun _ h=>?_) (fun _ h=>?_)
       ·(iterate 7 refine g5 ?_);exact ⟨(decide (v168 = 0)),(),h,sP⟩
       ·(iterate 7 refine g5 ?_);exact ⟨false,(),h,sP⟩
      ·rintro v169 _ h;refine xD h rfl (fun _ h=>?_) (fun _ h=>?_)
       ·(iterate 6 refine g5 ?_);obtain ⟨y172,hy173,h⟩:=zI h;refine xO [(100,100)] [] [100] (zK v166 v167 v168 y172 hy173) call23 ?_;(iterate 2 refine g5 ?_);refine wz (tl:=[(0,_),(3,_),(4,_),(5,_),(6,_),(7,_),(8,_),(9,_)]) (to:=[(3,_),(6,_),(100,_),(1100,_)]) ?_;(iterate 4 refine g5 ?_);obtain ⟨hy174,h⟩:=zm h;refine ws (LR.appT (enc:=RN.e) (L:=([]:List RN)) (R:=p165) [44] xv underlying99 rfl (by first | (simp;done) | (simp;omega) | omega) rfl (Src.slT (enc:=RN.e) (R:=p165) rfl (fun _=>rfl)) (fun _=>rfl) hy174 rfl rfl) ?_;(iterate 2 refine g5 ?_);obtain ⟨y175,hy176,h⟩:=zI h;refine xO [(100,100)] [] [100] (zK y172.2.1 y172.2.2.1 y172.2.2.2 y175 hy176) call23<|ws (LR.build (ns:=[_,_]) Xp rfl rfl rfl)<|ws (LR.buildSliceD [.tmp 51] xv rfl rfl (.cons rfl rfl rfl<|.nil) (by decide) (by decide)) ?_;obtain ⟨hy177,h⟩:=zm h;refine ws (LR.appT (enc:=RN.e) (L:=(([]:List RN) ++ p165)) (R:=[(⟨y172.1,y175.1⟩:RN)]) [47] xv underlying99 rfl rfl rfl (Src.slT (enc:=RN.e) (R:=[(⟨y172.1,y175.1⟩:RN)]) rfl (fun _=>rfl)) (fun _=>rfl) hy177 rfl rfl) ?_;refine g5 ?_;refine PWl.frz [53] hK (.cons rfl<|.nil) rfl (by first | (simp;done) | (simp;omega) | omega) ?_;(iterate 2 refine g5 ?_);refine wz (tl:=[(0,_),(3,_),(4,_),(5,_),(6,_),(7,_),(8,_)]) (to:=[(3,_),(6,_),(100,_),(1100,_)]) ?_;(iterate 5 refine g5 ?_);exact ⟨((IntKind.u64.wrap (k164 + 1)),((([]:List RN) ++ p165) ++ [(⟨y172.1,y175.1⟩:RN)]),y175.2.1,y175.2.2.1,y175.2.2.2),(),h,sP⟩
       ·refine wZ ?_;exact ⟨(p165,v166,v167,v168),(),h,sP⟩
     ·rintro ⟨p137,v138,v139,v140⟩ _ h;(iterate 3 refine g5 ?_);refine ws (LR.buildSliceD [.tmp 56] Wc rfl rfl (.cons rfl rfl rfl<|.nil) (by decide) (by decide)) ?_;obtain ⟨hy178,h⟩:=zm h;refine ws (LR.appT (enc:=PT.e) (L:=out122) (R:=[(⟨(IntKind.u16.wrap y133.1),p137⟩:PT)]) [3,55] Wc underlying27 rfl rfl rfl (Src.slT (enc:=PT.e) (R:=[(⟨(IntKind.u16.wrap y133.1),p137⟩:PT)]) rfl (fun _=>rfl)) (fun _=>rfl) hy178 rfl rfl) ?_;(iterate 2 refine g5 ?_);exact ⟨((out122 ++ [(⟨(IntKind.u16.wrap y133.1),p137⟩:PT)]),v138,v139,v140),(),h,sO rfl (.cons rfl rfl<|.cons rfl (by first | rfl | (simp;done) | (congr 1;first | (simp;done) | (simp;omega) | omega))<|.c2 rfl rfl rfl rfl<|.nil) (.c2 rfl rfl rfl rfl<|.cons rfl rfl<|.nil)⟩
    ·rintro ⟨out129,v130,v131,v132⟩ _ h;(iterate 5 refine g5 ?_);exact ⟨((IntKind.u64.wrap (i121 + 1)),out129,v130,v131,v132),(),h,sP⟩
   ·refine wZ ?_;exact ⟨(out122,v123,v124,v125),(),h,sP⟩
 ·rintro ⟨out6,v7,v8,v9⟩ _ h;(iterate 2 refine g5 ?_);refine wJ (zF h) (fun (⟨out179,v180⟩:List PT × Bool) (_:Unit)=>⟨77,[(0,.ref 100 0),(3,.d (.sl (List.map PT.e out179))),(68,.d (.v (.bool v180)))],[(100,.cells 59 [.d (.sl (List.map (eK .u8) v7)),.d (.v (.int .i64 v8)),.d (.v (.int .i64 v9))]),(1100,.pin 100 (pv 100))]⟩) (fun h=>?_) ?_
  ·(iterate 7 refine g5 ?_);refine xG (d:=64) h rfl (fun _ h=>?_) (fun _ h=>?_)
   ·refine g5 ?_;obtain ⟨v182,hy183,h⟩:=zI h;refine PWl.frz [3,65] hK (.cons rfl<|.cons rfl<|.nil) rfl (by simp) ?_;refine wt (cN (wn out6 v182 hy183) rfl call36 rfl rfl rfl rfl) ?_;(iterate 3 refine g5 ?_);exact ⟨(out6,(!v182)),(),h,sP⟩
   ·(iterate 5 refine g5 ?_);exact ⟨(out6,false),(),h,Sub.trans (Sub.frz [3] hK rfl (by simp) (AllRow.get (.cons rfl<|.nil)))<|sP⟩
  ·rintro ⟨out179,v180⟩ _ h;refine wJ (zF h) (fun (⟨v184,v185,v186⟩:List Int × Int × Int) (_:Unit)=>⟨77,[(0,.ref 100 0),(3,.d (.sl (List.map PT.e out179)))],[(100,.cells 59 [.d (.sl (List.map (eK .u8) v184)),.d (.v (.int .i64 v185)),.d (.v (.int .i64 v186))]),(1100,.pin 100 (pv 100))]⟩) (fun h=>?_) ?_
   ·refine xD h rfl (fun _ h=>?_) (fun _ h=>?_)
    ·(iterate 2 refine g5 ?_);obtain ⟨y188,hy189,h⟩:=zI h;refine xO [(100,100)] [] [100] (zG 4 v7 v8 v9 y188 hy189) call29 ?_;refine g5 ?_;exact ⟨(y188.1,y188.2.1,y188.2.2),(),h,sP⟩
    ·refine g5 ?_;exact ⟨(v7,v8,v9),(),h,sP⟩
   ·rintro ⟨v184,v185,v186⟩ _ h;(iterate 9 refine g5 ?_);refine xD h rfl (fun _ h=>?_) (fun _ h=>?_)
    ·(iterate 2 refine g5 ?_);refine ws (aR 101 2 rfl) ?_;refine g5 ?_;refine wX ?_;cases h;exact EndsO.mk () (.inr rfl) (Sub.trans (Sub.frz [2] hK rfl (by first | (simp;done) | (simp;omega) | omega) (AllRow.get (.cons rfl<|.nil)))<|sP (tl:=[(2,_)]) (to:=[(100,_),(1100,_)])) (.cons (.tmp rfl)<|.nil) rfl rfl
    ·(iterate 6 refine g5 ?_);refine wX ?_;cases h;exact EndsO.mk () (.inr rfl) (sP (tl:=[(2,_)]) (to:=[(100,_),(1100,_)])) (.cons (.tmp rfl)<|.nil) rfl rfl

theorem Ut (b_1:List Int) (at_2:Int) (bad_3:Int) (r0:DT × List Int × Int × Int) (h:(YA b_1 at_2 bad_3).wp (· = r0)):PObj prog 105 [.ref 100 0] [(100,.cells 59 [.d (.sl (List.map (eK .u8) b_1)),.d (.v (.int .i64 at_2)),.d (.v (.int .i64 bad_3))])] [100] (.agg (List.map .d (DT.e r0.1))) (fun _:Unit=>[(100,.cells 59 [.d (.sl (List.map (eK .u8) r0.2.1)),.d (.v (.int .i64 r0.2.2.1)),.d (.v (.int .i64 r0.2.2.2))])]):=by
 refine PObj.intro (sl:=[(0,_)]) func105 rfl ntmps105 rfl rfl rfl ?_;intro ctx hK pv;(iterate 7 refine g5 ?_);obtain ⟨y4,hy5,h⟩:=zI h;refine xO [(100,100)] [] [100] (yS 65535 b_1 at_2 bad_3 y4 hy5) call24 ?_;(iterate 3 refine g5 ?_);refine wz (tl:=[(0,_),(2,_),(3,_)]) (to:=[(2,_),(100,_),(1100,_)]) ?_;(iterate 2 refine g5 ?_);refine ws (LR.convInt underlying25 (by rw [underlying24];rfl) rfl rfl) ?_;refine g5 ?_;obtain ⟨y6,hy7,h⟩:=zI h;refine xO [(100,100)] [] [100] (zK y4.2.1 y4.2.2.1 y4.2.2.2 y6 hy7) call23<|ws (LR.build (ns:=[_,_]) vi rfl rfl rfl) ?_;(iterate 5 refine g5 ?_);refine wz (tl:=[(0,_),(2,_),(4,_)]) (to:=[(2,_),(4,_),(100,_),(1100,_)]) ?_;refine wJ (zF h) (fun (v8:Bool) (_:Unit)=>⟨31,[(0,.ref 100 0),(2,.ref 2 0),(4,.ref 4 0),(21,.d (.v (.bool v8)))],[(2,.cells 105 [.d (.v (.int .u16 0)),.d (.v (.int .u64 0))]),(4,.cells 105 [.d (.v (.int .u16 (IntKind.u16.wrap y4.1))),.d (.v (.int .u64 y6.1))]),(100,.cells 59 [.d (.sl (List.map (eK .u8) y6.2.1)),.d (.v (.int .i64 y6.2.2.1)),.d (.v (.int .i64 y6.2.2.2))]),(1100,.pin 100 (pv 100))]⟩) (fun h=>?_) ?_
 ·(iterate 7 refine g5 ?_);refine xG (d:=17) h rfl (fun _ h=>?_) (fun _ h=>?_)
  ·refine g5 ?_;obtain ⟨v10,hy11,h⟩:=zI h;refine wt (cN (ZI (⟨(IntKind.u16.wrap y4.1),y6.1⟩:DT) v10 hy11) rfl call113 rfl rfl rfl rfl) ?_;(iterate 3 refine g5 ?_);exact ⟨(!v10),(),h,sP⟩
  ·(iterate 5 refine g5 ?_);exact ⟨false,(),h,sP⟩
 ·rintro v8 _ h;refine wJ (zF h) (fun (⟨v12,v13,v14⟩:List Int × Int × Int) (_:Unit)=>⟨31,[(0,.ref 100 0),(2,.ref 2 0),(4,.ref 4 0)],[(2,.cells 105 [.d (.v (.int .u16 0)),.d (.v (.int .u64 0))]),(4,.cells 105 [.d (.v (.int .u16 (IntKind.u16.wrap y4.1))),.d (.v (.int .u64 y6.1))]),(100,.cells 59 [.d (.sl (List.map (eK .u8) v12)),.d (.v (.int .i64 v13)),.d (.v (.int .i64 v14))]),(1100,.pin 100 (pv 100))]⟩) (fun h=>?_) ?_
  ·refine xD h rfl (fun _ h=>?_) (fun _ h=>?_)
   ·(iterate 2 refine g5 ?_);obtain ⟨y16,hy17,h⟩:=zI h;refine xO [(100,100)] [] [100] (zG 4 y6.2.1 y6.2.2.1 y6.2.2.2 y16 hy17) call29 ?_;refine g5 ?_;exact ⟨(y16.1,y16.2.1,y16.2.2),(),h,sP⟩
   ·refine g5 ?_;exact ⟨(y6.2.1,y6.2.2.1,y6.2.2.2),(),h,sP⟩
  ·rintro ⟨v12,v13,v14⟩ _ h;(iterate 9 refine g5 ?_);refine xD h rfl (fun _ h=>?_) (fun _ h=>?_)
   ·(iterate 2 refine g5 ?_);refine ws (LR.build (ns:=[_,_]) vi rfl rfl rfl) ?_;(iterate 2 refine g5 ?_);refine wX ?_;cases h;exact EndsO.mkX (ex:=[(2,_)]) () (.inr rfl) (sP (tl:=[(2,_)]) (to:=[(100,_),(1100,_),(2,_)])) (.cons (.agg isAgg105 sizeOf105 rfl rfl rfl)<|.nil) rfl rfl
   ·(iterate 6 refine g5 ?_);refine wX ?_;cases h;exact EndsO.mkX (ex:=[(2,_)]) () (.inr rfl) (sP (tl:=[(2,_)]) (to:=[(100,_),(1100,_),(2,_)])) (.cons (.agg isAgg105 sizeOf105 rfl rfl rfl)<|.nil) rfl rfl


theorem uQ (most1:Int) (b_2:List Int) (at_3:Int) (bad_4:Int) (r0:ByteArray × List Int × Int × Int) (h:(zx most1 b_2 at_3 bad_4).wp (· = r0)):PObj prog 106 [.ref 100 0,.d (.v (.int .i64 most1))] [(100,.cells 59 [.d (.sl (List.map (eK .u8) b_2)),.d (.v (.int .i64 at_3)),.d (.v (.int .i64 bad_4))])] [100] (.d (.v (.string r0.1))) (fun _:Unit=>[(100,.cells 59 [.d (.sl (List.map (eK .u8) r0.2.1)),.d (.v (.int .i64 r0.2.2.1)),.d (.v (.int .i64 r0.2.2.2))])]):=by
 refine PObj.intro (sl:=[(0,_),(1,_)]) func106 rfl ntmps106 rfl rfl rfl ?_;intro ctx hK pv;(iterate 7 refine g5 ?_);obtain ⟨y5,hy6,h⟩:=zI h;refine xO [(100,100)] [] [100] (zK b_2 at_3 bad_4 y5 hy6) call23 ?_;(iterate 4 refine g5 ?_);refine wz (tl:=[(0,_),(1,_),(5,_)]) (to:=[(100,_),(1100,_)]) ?_;(iterate 4 refine g5 ?_);refine wJ (zF h) (fun (most7:Int) (_:Unit)=>⟨66,[(0,.ref 100 0),(1,.d (.v (.int .i64 most7))),(5,.d (.v (.int .u64 y5.1)))],[(100,.cells 59 [.d (.sl (List.map (eK .u8) y5.2.1)),.d (.v (.int .i64 y5.2.2.1)),.d (.v (.int .i64 y5.2.2.2))]),(1100,.pin 100 (pv 100))]⟩) (fun h=>?_) ?_
 ·refine xD h rfl (fun _ h=>?_) (fun _ h=>?_)
  ·(iterate 3 refine g5 ?_);exact ⟨0,(),h,sP⟩
  ·refine g5 ?_;exact ⟨most1,(),h,sP⟩
 ·rintro most7 _ h;(iterate 5 refine g5 ?_);refine ws (LR.convInt underlying24 (by rw [underlying3];rfl) rfl rfl) ?_;(iterate 2 refine g5 ?_);refine wJ (zF h) (fun (⟨v9,v10,v11⟩:List Int × Int × Int) (_:Unit)=>⟨66,[(0,.ref 100 0),(5,.d (.v (.int .u64 y5.1)))],[(100,.cells 59 [.d (.sl (List.map (eK .u8) v9)),.d (.v (.int .i64 v10)),.d (.v (.int .i64 v11))]),(1100,.pin 100 (pv 100))]⟩) (fun h=>?_) ?_
  ·refine xD h rfl (fun _ h=>?_) (fun _ h=>?_)
   ·(iterate 2 refine g5 ?_);obtain ⟨y13,hy14,h⟩:=zI h;refine xO [(100,100)] [] [100] (zG 3 y5.2.1 y5.2.2.1 y5.2.2.2 y13 hy14) call29 ?_;refine g5 ?_;exact ⟨(y13.1,y13.2.1,y13.2.2),(),h,sP⟩
   ·refine g5 ?_;exact ⟨(y5.2.1,y5.2.2.1,y5.2.2.2),(),h,sP⟩
  ·rintro ⟨v9,v10,v11⟩ _ h;(iterate 2 refine g5 ?_);refine wJ (zF h) (fun (v15:Bool) (_:Unit)=>⟨66,[(0,.ref 100 0),(5,.d (.v (.int .u64 y5.1))),(36,.d (.v (.bool v15)))],[(100,.cells 59 [.d (.sl (List.map (eK .u8) v9)),.d (.v (.int .i64 v10)),.d (.v (.int .i64 v11))]),(1100,.pin 100 (pv 100))]⟩) (fun h=>?_) ?_
   ·refine g5 ?_;(iterate 6 refine h5 ?_);refine xQ (d:=22) h rfl (fun _ h=>?_) (fun _ h=>?_)
    ·(iterate 5 refine h5 ?_);refine qt (fun _ U W=>lM (enc:=(eK .u8)) (L:=v9) underlying22 U) ?_;(iterate 5 refine h5 ?_);refine qt (fun _ U W=>LR.convInt underlying24 (by rw [underlying3];rfl) U rfl) ?_;(iterate 3 refine h5 ?_);exact ⟨(decide (((IntKind.u64.wrap ((IntKind.i64.wrap ((v9.length:Int) - v10))))) < y5.1)),(),h,sP⟩
    ·(iterate 15 refine h5 ?_);exact ⟨false,(),h,sP⟩
   ·rintro v15 _ h;refine wJ (zF h) (fun (⟨v17,v18,v19⟩:List Int × Int × Int) (_:Unit)=>⟨66,[(0,.ref 100 0),(5,.d (.v (.int .u64 y5.1)))],[(100,.cells 59 [.d (.sl (List.map (eK .u8) v17)),.d (.v (.int .i64 v18)),.d (.v (.int .i64 v19))]),(1100,.pin 100 (pv 100))]⟩) (fun h=>?_) ?_
    ·refine xD h rfl (fun _ h=>?_) (fun _ h=>?_)
     ·(iterate 2 refine g5 ?_);obtain ⟨y21,hy22,h⟩:=zI h;refine xO [(100,100)] [] [100] (zG 2 v9 v10 v11 y21 hy22) call29 ?_;refine g5 ?_;exact ⟨(y21.1,y21.2.1,y21.2.2),(),h,sP⟩
     ·refine g5 ?_;exact ⟨(v9,v10,v11),(),h,sP⟩
    ·rintro ⟨v17,v18,v19⟩ _ h;(iterate 9 refine g5 ?_);refine xD h rfl (fun _ h=>?_) (fun _ h=>?_)
     ·(iterate 4 refine g5 ?_);refine wX ?_;cases h;exact EndsO.mk () (.inr rfl) (sP (tl:=[(4,_)]) (to:=[(100,_),(1100,_)])) (.cons (.tmp rfl)<|.nil) rfl rfl
     ·(iterate 14 refine g5 ?_);refine ws (LR.convInt underlying3 (by rw [underlying24];rfl) rfl rfl) ?_;(iterate 7 refine g5 ?_);(iterate 9 refine h5 ?_);obtain ⟨hy24,h⟩:=zm h;refine qs (fun _ U W=>LR.cutT (enc:=(eK .u8)) (L:=v17) underlying22 sizeOf5 U (fun _=>rfl) U U hy24) ?_;(iterate 3 refine h5 ?_);refine wX ?_;cases h;exact EndsO.mk () (.inr rfl) (sP (tl:=[(4,_)]) (to:=[(100,_),(1100,_)])) (.cons (.tmp rfl)<|.nil) rfl rfl

theorem Qp (most1:Int) (b_2:List Int) (at_3:Int) (bad_4:Int) (r0:List DT × List Int × Int × Int) (h:(YB most1 b_2 at_3 bad_4).wp (· = r0)):PObj prog 107 [.ref 100 0,.d (.v (.int .i64 most1))] [(100,.cells 59 [.d (.sl (List.map (eK .u8) b_2)),.d (.v (.int .i64 at_3)),.d (.v (.int .i64 bad_4))])] [100] (.d (.sl (List.map DT.e r0.1))) (fun _:Unit=>[(100,.cells 59 [.d (.sl (List.map (eK .u8) r0.2.1)),.d (.v (.int .i64 r0.2.2.1)),.d (.v (.int .i64 r0.2.2.2))])]):=by
 refine PObj.intro (sl:=[(0,_),(1,_)]) func107 rfl ntmps107 rfl rfl rfl ?_;intro ctx hK pv;(iterate 2 refine g5 ?_);refine ws (aR 105 2 rfl) ?_;(iterate 7 refine g5 ?_);refine wJ (zF h) (fun (most5:Int) (_:Unit)=>⟨67,[(0,.ref 100 0),(1,.d (.v (.int .i64 most5)))],[(100,.cells 59 [.d (.sl (List.map (eK .u8) b_2)),.d (.v (.int .i64 at_3)),.d (.v (.int .i64 bad_4))]),(1100,.pin 100 (pv 100))]⟩) (fun h=>?_) ?_
 ·refine xD h rfl (fun _ h=>?_) (fun _ h=>?_)
  ·(iterate 3 refine g5 ?_);exact ⟨0,(),h,sP⟩
  ·refine g5 ?_;exact ⟨most1,(),h,sP⟩
 ·rintro most5 _ h;(iterate 3 refine g5 ?_);obtain ⟨y7,hy8,h⟩:=zI h;refine xO [(100,100)] [] [100] (zK b_2 at_3 bad_4 y7 hy8) call23 ?_;(iterate 4 refine g5 ?_);refine wz (tl:=[(0,_),(1,_),(5,_)]) (to:=[(100,_),(1100,_)]) ?_;(iterate 3 refine g5 ?_);refine ws (LR.convInt underlying24 (by rw [underlying3];rfl) rfl rfl) ?_;(iterate 2 refine g5 ?_);refine wJ (zF h) (fun (⟨v9,v10,v11⟩:List Int × Int × Int) (_:Unit)=>⟨67,[(0,.ref 100 0),(5,.d (.v (.int .u64 y7.1)))],[(100,.cells 59 [.d (.sl (List.map (eK .u8) v9)),.d (.v (.int .i64 v10)),.d (.v (.int .i64 v11))]),(1100,.pin 100 (pv 100))]⟩) (fun h=>?_) ?_
  ·refine xD h rfl (fun _ h=>?_) (fun _ h=>?_)
   ·(iterate 2 refine g5 ?_);obtain ⟨y13,hy14,h⟩:=zI h;refine xO [(100,100)] [] [100] (zG 3 y7.2.1 y7.2.2.1 y7.2.2.2 y13 hy14) call29 ?_;refine g5 ?_;exact ⟨(y13.1,y13.2.1,y13.2.2),(),h,sP⟩
   ·refine g5 ?_;exact ⟨(y7.2.1,y7.2.2.1,y7.2.2.2),(),h,sP⟩
  ·rintro ⟨v9,v10,v11⟩ _ h;(iterate 2 refine g5 ?_);refine ws (aR 105 2 rfl) ?_;(iterate 6 refine g5 ?_);refine wJ (zF h) (fun (⟨out15,v16,v17,v18⟩:List DT × List Int × Int × Int) (_:Unit)=>⟨67,[(0,.ref 100 0),(6,.row 6 (out15.length))],[(6,.row 105 2 (List.map DT.e out15)),(100,.cells 59 [.d (.sl (List.map (eK .u8) v16)),.d (.v (.int .i64 v17)),.d (.v (.int .i64 v18))]),(1100,.pin 100 (pv 100))]⟩) (fun h=>?_) ?_
   ·refine g5 ?_;refine wM (fun (⟨i62,out63,v64,v65,v66⟩:Int × List DT × List Int × Int × Int) (_:Unit)=>⟨67,[(0,.ref 100 0),(5,.d (.v (.int .u64 y7.1))),(6,.row 6 (out63.length)),(7,.d (.v (.int .u64 i62)))],[(6,.row 105 2 (List.map DT.e out63)),(100,.cells 59 [.d (.sl (List.map (eK .u8) v64)),.d (.v (.int .i64 v65)),.d (.v (.int .i64 v66))]),(1100,.pin 100 (pv 100))]⟩) () h (sP) ?_;rintro N ⟨i62,out63,v64,v65,v66⟩ _ h;(iterate 2 refine g5 ?_);refine wJ (zF h) (fun (v67:Bool) (_:Unit)=>⟨67,[(0,.ref 100 0),(5,.d (.v (.int .u64 y7.1))),(6,.row 6 (out63.length)),(7,.d (.v (.int .u64 i62))),(29,.d (.v (.bool v67)))],[(6,.row 105 2 (List.map DT.e out63)),(100,.cells 59 [.d (.sl (List.map (eK .u8) v64)),.d (.v (.int .i64 v65)),.d (.v (.int .i64 v66))]),(1100,.pin 100 (pv 100))]⟩) (fun h=>?_) ?_
    ·(iterate 5 refine g5 ?_);refine xG (d:=23) h rfl (fun _ h=>?_) (fun _ h=>?_)
     ·(iterate 7 refine g5 ?_);exact ⟨(decide (v66 = 0)),(),h,sP⟩
     ·(iterate 7 refine g5 ?_);exact ⟨false,(),h,sP⟩
    ·rintro v67 _ h;refine xD h rfl (fun _ h=>?_) (fun _ h=>?_)
     ·(iterate 6 refine g5 ?_);obtain ⟨y70,hy71,h⟩:=zI h;refine xO [(100,100)] [] [100] (Ut v64 v65 v66 y70 hy71) call105 ?_;(iterate 4 refine g5 ?_);refine wz (tl:=[(0,_),(5,_),(6,_),(7,_),(8,_)]) (to:=[(6,_),(8,_),(100,_),(1100,_)]) ?_;(iterate 8 refine g5 ?_);refine wJ (zF h) (fun (v72:Bool) (_:Unit)=>⟨67,[(0,.ref 100 0),(5,.d (.v (.int .u64 y7.1))),(6,.row 6 (out63.length)),(7,.d (.v (.int .u64 i62))),(8,.ref 8 0),(54,.d (.v (.bool v72)))],[(6,.row 105 2 (List.map DT.e out63)),(8,.cells 105 [.d (.v (.int .u16 y70.1.dev)),.d (.v (.int .u64 y70.1.n))]),(100,.cells 59 [.d (.sl (List.map (eK .u8) y70.2.1)),.d (.v (.int .i64 y70.2.2.1)),.d (.v (.int .i64 y70.2.2.2))]),(1100,.pin 100 (pv 100))]⟩) (fun h=>?_) ?_
      ·refine g5 ?_;(iterate 6 refine h5 ?_);refine xQ (d:=42) h rfl (fun _ h=>?_) (fun _ h=>?_)
       ·(iterate 4 refine h5 ?_);refine xQ (d:=46) h rfl (fun _ h=>?_) (fun _ h=>?_)
        ·(iterate 2 refine h5 ?_);obtain ⟨x75,hy76,h⟩:=yF h;refine qt (fun _ U W=>LR.idxRowT (L:=out63) (y:=x75) underlying106 sizeOf105 U rfl U hy76) ?_;refine qt (fun _ U W=>LR.loadRpT (enc:=DT.e) (L:=out63) (y:=x75) isAgg105 sizeOf105 U (W rfl) hy76.2) ?_;refine h5 ?_;obtain ⟨v77,hy78,h⟩:=zI h;refine qt (fun _ U W=>cN (vY x75 y70.1 v77 hy78) U call71 (vu (fun a b=>U a b) rfl rfl) rfl rfl rfl) ?_;(iterate 3 refine h5 ?_);exact ⟨(decide (0 <= v77)),(),h,sP⟩
        ·(iterate 9 refine h5 ?_);exact ⟨false,(),h,sP⟩
       ·(iterate 13 refine h5 ?_);exact ⟨false,(),h,sP⟩
      ·rintro v72 _ h;refine wJ (zF h) (fun (⟨v79,v80,v81⟩:List Int × Int × Int) (_:Unit)=>⟨67,[(0,.ref 100 0),(5,.d (.v (.int .u64 y7.1))),(6,.row 6 (out63.length)),(7,.d (.v (.int .u64 i62))),(8,.ref 8 0)],[(6,.row 105 2 (List.map DT.e out63)),(8,.cells 105 [.d (.v (.int .u16 y70.1.dev)),.d (.v (.int .u64 y70.1.n))]),(100,.cells 59 [.d (.sl (List.map (eK .u8) v79)),.d (.v (.int .i64 v80)),.d (.v (.int .i64 v81))]),(1100,.pin 100 (pv 100))]⟩) (fun h=>?_) ?_
       ·refine xD h rfl (fun _ h=>?_) (fun _ h=>?_)
        ·(iterate 2 refine g5 ?_);obtain ⟨y83,hy84,h⟩:=zI h;refine xO [(100,100)] [] [100] (zG 4 y70.2.1 y70.2.2.1 y70.2.2.2 y83 hy84) call29 ?_;refine g5 ?_;exact ⟨(y83.1,y83.2.1,y83.2.2),(),h,sP⟩
        ·refine g5 ?_;exact ⟨(y70.2.1,y70.2.2.1,y70.2.2.2),(),h,sP⟩
       ·rintro ⟨v79,v80,v81⟩ _ h;(iterate 3 refine g5 ?_);refine ws (LR.buildSliceD [.tmp 58] xI rfl rfl (.cons rfl rfl rfl<|.nil) (by decide) (by decide)) ?_;obtain ⟨hy85,h⟩:=zm h;refine ws (LR.appT (enc:=DT.e) (L:=out63) (R:=[y70.1]) [6,57] xI underlying106 rfl rfl rfl (Src.slT (enc:=DT.e) (R:=[y70.1]) rfl (fun _=>rfl)) (fun _=>rfl) hy85 rfl rfl) ?_;(iterate 7 refine g5 ?_);exact ⟨((IntKind.u64.wrap (i62 + 1)),(out63 ++ [y70.1]),v79,v80,v81),(),h,sP⟩
     ·refine wZ ?_;exact ⟨(out63,v64,v65,v66),(),h,sP⟩
   ·rintro ⟨out15,v16,v17,v18⟩ _ h;(iterate 9 refine g5 ?_);refine xD h rfl (fun _ h=>?_) (fun _ h=>?_)
    ·(iterate 2 refine g5 ?_);refine ws (aR 105 2 rfl) ?_;refine g5 ?_;refine wX ?_;cases h;exact EndsO.mk () (.inr rfl) (Sub.trans (Sub.frz [4] hK rfl (by first | (simp;done) | (simp;omega) | omega) (AllRow.get (.cons rfl<|.nil)))<|sP (tl:=[(4,_)]) (to:=[(100,_),(1100,_)])) (.cons (.tmp rfl)<|.nil) rfl rfl
    ·(iterate 6 refine g5 ?_);refine wX ?_;cases h;exact EndsO.mk () (.inr rfl) (Sub.trans (Sub.frz [4,6,66] hK rfl (by simp) (AllRow.get (.cons rfl<|.cons rfl<|.cons rfl<|.nil)))<|sP (tl:=[(4,_)]) (to:=[(100,_),(1100,_)])) (.cons (.tmp rfl)<|.nil) rfl rfl

theorem yGa (b_1:List Int) (at_2:Int) (bad_3:Int) (r0:EV × List Int × Int × Int) (h:(VZ b_1 at_2 bad_3).wp (· = r0)):PObj prog 70 [.ref 100 0] [(100,.cells 59 [.d (.sl (List.map (eK .u8) b_1)),.d (.v (.int .i64 at_2)),.d (.v (.int .i64 bad_3))])] [100] (.agg (List.map .d (EV.e r0.1))) (fun _:Unit=>[(100,.cells 59 [.d (.sl (List.map (eK .u8) r0.2.1)),.d (.v (.int .i64 r0.2.2.1)),.d (.v (.int .i64 r0.2.2.2))])]):=by
 refine PObj.intro (sl:=[(0,_)]) func70 rfl ntmps70 rfl rfl rfl ?_;intro ctx hK pv;(iterate 7 refine g5 ?_);obtain ⟨y4,hy5,h⟩:=zI h;refine xO [(100,100)] [] [100] (Ut b_1 at_2 bad_3 y4 hy5) call105<|ws (LR.build (ns:=[_,_,_,_,_,_,_]) Uz rfl rfl rfl) ?_;(iterate 4 refine g5 ?_);refine wz (tl:=[(0,_),(2,_),(3,_)]) (to:=[(2,_),(3,_),(100,_),(1100,_)]) ?_;(iterate 2 refine g5 ?_);obtain ⟨y6,hy7,h⟩:=zI h;refine xO [(100,100)] [] [100] (yB y4.2.1 y4.2.2.1 y4.2.2.2 y6 hy7) call22 ?_;(iterate 4 refine g5 ?_);refine wz (tl:=[(0,_),(2,_),(3,_)]) (to:=[(2,_),(3,_),(100,_),(1100,_)]) ?_;(iterate 2 refine g5 ?_);obtain ⟨y8,hy9,h⟩:=zI h;refine xO [(100,100)] [] [100] (zK y6.2.1 y6.2.2.1 y6.2.2.2 y8 hy9) call23 ?_;(iterate 4 refine g5 ?_);refine wz (tl:=[(0,_),(2,_),(3,_)]) (to:=[(2,_),(3,_),(100,_),(1100,_)]) ?_;(iterate 2 refine g5 ?_);obtain ⟨y10,hy11,h⟩:=zI h;refine xO [(100,100)] [] [100] (yB y8.2.1 y8.2.2.1 y8.2.2.2 y10 hy11) call22 ?_;(iterate 4 refine g5 ?_);refine wz (tl:=[(0,_),(2,_),(3,_)]) (to:=[(2,_),(3,_),(100,_),(1100,_)]) ?_;(iterate 2 refine g5 ?_);obtain ⟨y12,hy13,h⟩:=zI h;refine xO [(100,100)] [] [100] (uQ 60 y10.2.1 y10.2.2.1 y10.2.2.2 y12 hy13) call106 ?_;(iterate 4 refine g5 ?_);refine wz (tl:=[(0,_),(2,_),(3,_)]) (to:=[(2,_),(3,_),(100,_),(1100,_)]) ?_;(iterate 2 refine g5 ?_);obtain ⟨y14,hy15,h⟩:=zI h;refine xO [(100,100)] [] [100] (Qp 256 y12.2.1 y12.2.2.1 y12.2.2.2 y14 hy15) call107 ?_;(iterate 5 refine g5 ?_);refine wz (tl:=[(0,_),(2,_),(3,_)]) (to:=[(2,_),(3,_),(100,_),(1100,_)]) ?_;refine wJ (zF h) (fun (v16:Bool) (_:Unit)=>⟨41,[(0,.ref 100 0),(2,.ref 2 0),(3,.ref 3 0),(31,.d (.v (.bool v16)))],[(2,.cells 108 [.d (.v (.int .u16 0)),.d (.v (.int .u64 0)),.d (.v (.int .u8 0)),.d (.v (.int .u64 0)),.d (.v (.int .u8 0)),.d (.v (.string (⟨#[]⟩:ByteArray))),.d (.sl (List.map DT.e ([]:List DT)))]),(3,.cells 108 [.d (.v (.int .u16 y4.1.dev)),.d (.v (.int .u64 y4.1.n)),.d (.v (.int .u8 y6.1)),.d (.v (.int .u64 y8.1)),.d (.v (.int .u8 y10.1)),.d (.v (.string y12.1)),.d (.sl (List.map DT.e y14.1))]),(100,.cells 59 [.d (.sl (List.map (eK .u8) y14.2.1)),.d (.v (.int .i64 y14.2.2.1)),.d (.v (.int .i64 y14.2.2.2))]),(1100,.pin 100 (pv 100))]⟩) (fun h=>?_) ?_
 ·(iterate 7 refine g5 ?_);refine xG (d:=27) h rfl (fun _ h=>?_) (fun _ h=>?_)
  ·refine g5 ?_;obtain ⟨v18,hy19,h⟩:=zI h;refine wt (cN (Wy (⟨y4.1,y6.1,y8.1,y10.1,y12.1,y14.1⟩:EV) v18 hy19) rfl call80 rfl rfl rfl rfl) ?_;(iterate 3 refine g5 ?_);exact ⟨(!v18),(),h,sP⟩
  ·(iterate 5 refine g5 ?_);exact ⟨false,(),h,sP⟩
 ·rintro v16 _ h;refine wJ (zF h) (fun (⟨v20,v21,v22⟩:List Int × Int × Int) (_:Unit)=>⟨41,[(0,.ref 100 0),(2,.ref 2 0),(3,.ref 3 0)],[(2,.cells 108 [.d (.v (.int .u16 0)),.d (.v (.int .u64 0)),.d (.v (.int .u8 0)),.d (.v (.int .u64 0)),.d (.v (.int .u8 0)),.d (.v (.string (⟨#[]⟩:ByteArray))),.d (.sl (List.map DT.e ([]:List DT)))]),(3,.cells 108 [.d (.v (.int .u16 y4.1.dev)),.d (.v (.int .u64 y4.1.n)),.d (.v (.int .u8 y6.1)),.d (.v (.int .u64 y8.1)),.d (.v (.int .u8 y10.1)),.d (.v (.string y12.1)),.d (.sl (List.map DT.e y14.1))]),(100,.cells 59 [.d (.sl (List.map (eK .u8) v20)),.d (.v (.int .i64 v21)),.d (.v (.int .i64 v22))]),(1100,.pin 100 (pv 100))]⟩) (fun h=>?_) ?_
  ·refine xD h rfl (fun _ h=>?_) (fun _ h=>?_)
   ·(iterate 2 refine g5 ?_);obtain ⟨y24,hy25,h⟩:=zI h;refine xO [(100,100)] [] [100] (zG 4 y14.2.1 y14.2.2.1 y14.2.2.2 y24 hy25) call29 ?_;refine g5 ?_;exact ⟨(y24.1,y24.2.1,y24.2.2),(),h,sP⟩
   ·refine g5 ?_;exact ⟨(y14.2.1,y14.2.2.1,y14.2.2.2),(),h,sP⟩
  ·rintro ⟨v20,v21,v22⟩ _ h;(iterate 9 refine g5 ?_);refine xD h rfl (fun _ h=>?_) (fun _ h=>?_)
   ·(iterate 2 refine g5 ?_);refine ws (LR.build (ns:=[_,_,_,_,_,_,_]) Uz rfl rfl rfl) ?_;(iterate 2 refine g5 ?_);refine wX ?_;cases h;exact EndsO.mkX (ex:=[(2,_)]) () (.inr rfl) (sP (tl:=[(2,_)]) (to:=[(100,_),(1100,_),(2,_)])) (.cons (.agg isAgg108 sizeOf108 rfl rfl rfl)<|.nil) rfl rfl
   ·(iterate 6 refine g5 ?_);refine wX ?_;cases h;exact EndsO.mkX (ex:=[(2,_)]) () (.inr rfl) (sP (tl:=[(2,_)]) (to:=[(100,_),(1100,_),(2,_)])) (.cons (.agg isAgg108 sizeOf108 rfl rfl rfl)<|.nil) rfl rfl

theorem XZ (most1:Int) (b_2:List Int) (at_3:Int) (bad_4:Int) (r0:List EV × List Int × Int × Int) (h:(uB most1 b_2 at_3 bad_4).wp (· = r0)):PObj prog 27 [.ref 100 0,.d (.v (.int .i64 most1))] [(100,.cells 59 [.d (.sl (List.map (eK .u8) b_2)),.d (.v (.int .i64 at_3)),.d (.v (.int .i64 bad_4))])] [100] (.d (.sl (List.map EV.e r0.1))) (fun _:Unit=>[(100,.cells 59 [.d (.sl (List.map (eK .u8) r0.2.1)),.d (.v (.int .i64 r0.2.2.1)),.d (.v (.int .i64 r0.2.2.2))])]):=by
 refine PObj.intro (sl:=[(0,_),(1,_)]) func27 rfl ntmps27 rfl rfl rfl ?_;intro ctx hK pv;(iterate 2 refine g5 ?_);refine ws (aR 108 7 rfl) ?_;(iterate 7 refine g5 ?_);refine wJ (zF h) (fun (most5:Int) (_:Unit)=>⟨69,[(0,.ref 100 0),(1,.d (.v (.int .i64 most5)))],[(100,.cells 59 [.d (.sl (List.map (eK .u8) b_2)),.d (.v (.int .i64 at_3)),.d (.v (.int .i64 bad_4))]),(1100,.pin 100 (pv 100))]⟩) (fun h=>?_) ?_
 ·refine xD h rfl (fun _ h=>?_) (fun _ h=>?_)
  ·(iterate 3 refine g5 ?_);exact ⟨0,(),h,sP⟩
  ·refine g5 ?_;exact ⟨most1,(),h,sP⟩
 ·rintro most5 _ h;(iterate 3 refine g5 ?_);obtain ⟨y7,hy8,h⟩:=zI h;refine xO [(100,100)] [] [100] (zK b_2 at_3 bad_4 y7 hy8) call23 ?_;(iterate 4 refine g5 ?_);refine wz (tl:=[(0,_),(1,_),(5,_)]) (to:=[(100,_),(1100,_)]) ?_;(iterate 3 refine g5 ?_);refine ws (LR.convInt underlying24 (by rw [underlying3];rfl) rfl rfl) ?_;(iterate 2 refine g5 ?_);refine wJ (zF h) (fun (⟨v9,v10,v11⟩:List Int × Int × Int) (_:Unit)=>⟨69,[(0,.ref 100 0),(5,.d (.v (.int .u64 y7.1)))],[(100,.cells 59 [.d (.sl (List.map (eK .u8) v9)),.d (.v (.int .i64 v10)),.d (.v (.int .i64 v11))]),(1100,.pin 100 (pv 100))]⟩) (fun h=>?_) ?_
  ·refine xD h rfl (fun _ h=>?_) (fun _ h=>?_)
   ·(iterate 2 refine g5 ?_);obtain ⟨y13,hy14,h⟩:=zI h;refine xO [(100,100)] [] [100] (zG 3 y7.2.1 y7.2.2.1 y7.2.2.2 y13 hy14) call29 ?_;refine g5 ?_;exact ⟨(y13.1,y13.2.1,y13.2.2),(),h,sP⟩
   ·refine g5 ?_;exact ⟨(y7.2.1,y7.2.2.1,y7.2.2.2),(),h,sP⟩
  ·rintro ⟨v9,v10,v11⟩ _ h;(iterate 2 refine g5 ?_);refine ws (aR 108 7 rfl) ?_;(iterate 6 refine g5 ?_);refine wJ (zF h) (fun (⟨out15,v16,v17,v18⟩:List EV × List Int × Int × Int) (_:Unit)=>⟨69,[(0,.ref 100 0),(6,.row 6 (out15.length))],[(6,.row 108 7 (List.map EV.e out15)),(100,.cells 59 [.d (.sl (List.map (eK .u8) v16)),.d (.v (.int .i64 v17)),.d (.v (.int .i64 v18))]),(1100,.pin 100 (pv 100))]⟩) (fun h=>?_) ?_
   ·refine g5 ?_;refine wM (fun (⟨i62,out63,v64,v65,v66⟩:Int × List EV × List Int × Int × Int) (_:Unit)=>⟨69,[(0,.ref 100 0),(5,.d (.v (.int .u64 y7.1))),(6,.row 6 (out63.length)),(7,.d (.v (.int .u64 i62)))],[(6,.row 108 7 (List.map EV.e out63)),(100,.cells 59 [.d (.sl (List.map (eK .u8) v64)),.d (.v (.int .i64 v65)),.d (.v (.int .i64 v66))]),(1100,.pin 100 (pv 100))]⟩) () h (sP) ?_;rintro N ⟨i62,out63,v64,v65,v66⟩ _ h;(iterate 2 refine g5 ?_);refine wJ (zF h) (fun (v67:Bool) (_:Unit)=>⟨69,[(0,.ref 100 0),(5,.d (.v (.int .u64 y7.1))),(6,.row 6 (out63.length)),(7,.d (.v (.int .u64 i62))),(29,.d (.v (.bool v67)))],[(6,.row 108 7 (List.map EV.e out63)),(100,.cells 59 [.d (.sl (List.map (eK .u8) v64)),.d (.v (.int .i64 v65)),.d (.v (.int .i64 v66))]),(1100,.pin 100 (pv 100))]⟩) (fun h=>?_) ?_
    ·(iterate 5 refine g5 ?_);refine xG (d:=23) h rfl (fun _ h=>?_) (fun _ h=>?_)
     ·(iterate 7 refine g5 ?_);exact ⟨(decide (v66 = 0)),(),h,sP⟩
     ·(iterate 7 refine g5 ?_);exact ⟨false,(),h,sP⟩
    ·rintro v67 _ h;refine xD h rfl (fun _ h=>?_) (fun _ h=>?_)
     ·(iterate 6 refine g5 ?_);obtain ⟨y70,hy71,h⟩:=zI h;refine xO [(100,100)] [] [100] (yGa v64 v65 v66 y70 hy71) call70 ?_;(iterate 4 refine g5 ?_);refine wz (tl:=[(0,_),(5,_),(6,_),(7,_),(8,_)]) (to:=[(6,_),(8,_),(100,_),(1100,_)]) ?_;(iterate 8 refine g5 ?_);refine wJ (zF h) (fun (v72:Bool) (_:Unit)=>⟨69,[(0,.ref 100 0),(5,.d (.v (.int .u64 y7.1))),(6,.row 6 (out63.length)),(7,.d (.v (.int .u64 i62))),(8,.ref 8 0),(56,.d (.v (.bool v72)))],[(6,.row 108 7 (List.map EV.e out63)),(8,.cells 108 [.d (.v (.int .u16 y70.1.dot.dev)),.d (.v (.int .u64 y70.1.dot.n)),.d (.v (.int .u8 y70.1.kind)),.d (.v (.int .u64 y70.1.cid)),.d (.v (.int .u8 y70.1.field)),.d (.v (.string y70.1.text)),.d (.sl (List.map DT.e y70.1.kills))]),(100,.cells 59 [.d (.sl (List.map (eK .u8) y70.2.1)),.d (.v (.int .i64 y70.2.2.1)),.d (.v (.int .i64 y70.2.2.2))]),(1100,.pin 100 (pv 100))]⟩) (fun h=>?_) ?_
      ·refine g5 ?_;(iterate 6 refine h5 ?_);refine xQ (d:=42) h rfl (fun _ h=>?_) (fun _ h=>?_)
       ·(iterate 4 refine h5 ?_);refine xQ (d:=46) h rfl (fun _ h=>?_) (fun _ h=>?_)
        ·(iterate 2 refine h5 ?_);obtain ⟨x75,hy76,h⟩:=yF h;refine qt (fun _ U W=>LR.idxRowT (L:=out63) (y:=x75) underlying28 sizeOf108 U rfl U hy76) ?_;refine h5 ?_;refine qt (fun _ U W=>LR.loadRpPartT (enc:=EV.e) (L:=out63) (y:=x75) isAgg105 sizeOf105 U (W rfl) hy76.2 rfl rfl) ?_;(iterate 2 refine h5 ?_);obtain ⟨v77,hy78,h⟩:=zI h;refine qt (fun _ U W=>cN (vY x75.dot y70.1.dot v77 hy78) U call71 (vu (fun a b=>U a b) rfl rfl) rfl rfl rfl) ?_;(iterate 3 refine h5 ?_);exact ⟨(decide (0 <= v77)),(),h,sP⟩
        ·(iterate 11 refine h5 ?_);exact ⟨false,(),h,sP⟩
       ·(iterate 15 refine h5 ?_);exact ⟨false,(),h,sP⟩
      ·rintro v72 _ h;refine wJ (zF h) (fun (⟨v79,v80,v81⟩:List Int × Int × Int) (_:Unit)=>⟨69,[(0,.ref 100 0),(5,.d (.v (.int .u64 y7.1))),(6,.row 6 (out63.length)),(7,.d (.v (.int .u64 i62))),(8,.ref 8 0)],[(6,.row 108 7 (List.map EV.e out63)),(8,.cells 108 [.d (.v (.int .u16 y70.1.dot.dev)),.d (.v (.int .u64 y70.1.dot.n)),.d (.v (.int .u8 y70.1.kind)),.d (.v (.int .u64 y70.1.cid)),.d (.v (.int .u8 y70.1.field)),.d (.v (.string y70.1.text)),.d (.sl (List.map DT.e y70.1.kills))]),(100,.cells 59 [.d (.sl (List.map (eK .u8) v79)),.d (.v (.int .i64 v80)),.d (.v (.int .i64 v81))]),(1100,.pin 100 (pv 100))]⟩) (fun h=>?_) ?_
       ·refine xD h rfl (fun _ h=>?_) (fun _ h=>?_)
        ·(iterate 2 refine g5 ?_);obtain ⟨y83,hy84,h⟩:=zI h;refine xO [(100,100)] [] [100] (zG 4 y70.2.1 y70.2.2.1 y70.2.2.2 y83 hy84) call29 ?_;refine g5 ?_;exact ⟨(y83.1,y83.2.1,y83.2.2),(),h,sP⟩
        ·refine g5 ?_;exact ⟨(y70.2.1,y70.2.2.1,y70.2.2.2),(),h,sP⟩
       ·rintro ⟨v79,v80,v81⟩ _ h;(iterate 3 refine g5 ?_);refine ws (LR.buildSliceD [.tmp 60] wKa rfl rfl (.cons rfl rfl rfl<|.nil) (by decide) (by decide)) ?_;obtain ⟨hy85,h⟩:=zm h;refine ws (LR.appT (enc:=EV.e) (L:=out63) (R:=[y70.1]) [6,59] wKa underlying28 rfl rfl rfl (Src.slT (enc:=EV.e) (R:=[y70.1]) rfl (fun _=>rfl)) (fun _=>rfl) hy85 rfl rfl) ?_;(iterate 7 refine g5 ?_);exact ⟨((IntKind.u64.wrap (i62 + 1)),(out63 ++ [y70.1]),v79,v80,v81),(),h,sP⟩
     ·refine wZ ?_;exact ⟨(out63,v64,v65,v66),(),h,sP⟩
   ·rintro ⟨out15,v16,v17,v18⟩ _ h;(iterate 9 refine g5 ?_);refine xD h rfl (fun _ h=>?_) (fun _ h=>?_)
    ·(iterate 2 refine g5 ?_);refine ws (aR 108 7 rfl) ?_;refine g5 ?_;refine wX ?_;cases h;exact EndsO.mk () (.inr rfl) (Sub.trans (Sub.frz [4] hK rfl (by first | (simp;done) | (simp;omega) | omega) (AllRow.get (.cons rfl<|.nil)))<|sP (tl:=[(4,_)]) (to:=[(100,_),(1100,_)])) (.cons (.tmp rfl)<|.nil) rfl rfl
    ·(iterate 6 refine g5 ?_);refine wX ?_;cases h;exact EndsO.mk () (.inr rfl) (Sub.trans (Sub.frz [4,6,68] hK rfl (by simp) (AllRow.get (.cons rfl<|.cons rfl<|.cons rfl<|.nil)))<|sP (tl:=[(4,_)]) (to:=[(100,_),(1100,_)])) (.cons (.tmp rfl)<|.nil) rfl rfl

theorem qH (b_1:List Int) (at_2:Int) (bad_3:Int) (r0:DL × List Int × Int × Int) (h:(Ym b_1 at_2 bad_3).wp (· = r0)):PObj prog 26 [.ref 100 0] [(100,.cells 59 [.d (.sl (List.map (eK .u8) b_1)),.d (.v (.int .i64 at_2)),.d (.v (.int .i64 bad_3))])] [100] (.agg (List.map .d (DL.e r0.1))) (fun _:Unit=>[(100,.cells 59 [.d (.sl (List.map (eK .u8) r0.2.1)),.d (.v (.int .i64 r0.2.2.1)),.d (.v (.int .i64 r0.2.2.2))])]):=by
 refine PObj.intro (sl:=[(0,_)]) func26 rfl ntmps26 rfl rfl rfl ?_;intro ctx hK pv;(iterate 7 refine g5 ?_);obtain ⟨y4,hy5,h⟩:=zI h;refine xO [(100,100)] [] [100] (Zg b_1 at_2 bad_3 y4 hy5) call25<|ws (LR.build (ns:=[_,_,_]) UM rfl rfl rfl) ?_;(iterate 4 refine g5 ?_);refine wz (tl:=[(0,_),(2,_),(3,_)]) (to:=[(2,_),(3,_),(100,_),(1100,_)]) ?_;(iterate 2 refine g5 ?_);obtain ⟨y6,hy7,h⟩:=zI h;refine xO [(100,100)] [] [100] (Zg y4.2.1 y4.2.2.1 y4.2.2.2 y6 hy7) call25 ?_;(iterate 4 refine g5 ?_);refine wz (tl:=[(0,_),(2,_),(3,_)]) (to:=[(2,_),(3,_),(100,_),(1100,_)]) ?_;(iterate 2 refine g5 ?_);obtain ⟨y8,hy9,h⟩:=zI h;refine xO [(100,100)] [] [100] (XZ 4096 y6.2.1 y6.2.2.1 y6.2.2.2 y8 hy9) call27 ?_;(iterate 5 refine g5 ?_);refine wz (tl:=[(0,_),(2,_),(3,_)]) (to:=[(2,_),(3,_),(100,_),(1100,_)]) ?_;refine wJ (zF h) (fun (v10:Bool) (_:Unit)=>⟨32,[(0,.ref 100 0),(2,.ref 2 0),(3,.ref 3 0),(22,.d (.v (.bool v10)))],[(2,.cells 30 [.d (.sl (List.map PT.e ([]:List PT))),.d (.sl (List.map PT.e ([]:List PT))),.d (.sl (List.map EV.e ([]:List EV)))]),(3,.cells 30 [.d (.sl (List.map PT.e y4.1)),.d (.sl (List.map PT.e y6.1)),.d (.sl (List.map EV.e y8.1))]),(100,.cells 59 [.d (.sl (List.map (eK .u8) y8.2.1)),.d (.v (.int .i64 y8.2.2.1)),.d (.v (.int .i64 y8.2.2.2))]),(1100,.pin 100 (pv 100))]⟩) (fun h=>?_) ?_
 ·(iterate 7 refine g5 ?_);refine xG (d:=18) h rfl (fun _ h=>?_) (fun _ h=>?_)
  ·refine g5 ?_;obtain ⟨v12,hy13,h⟩:=zI h;refine wt (cN (Wz (⟨y4.1,y6.1,y8.1⟩:DL) v12 hy13) rfl call39 rfl rfl rfl rfl) ?_;(iterate 3 refine g5 ?_);exact ⟨(!v12),(),h,sP⟩
  ·(iterate 5 refine g5 ?_);exact ⟨false,(),h,sP⟩
 ·rintro v10 _ h;refine wJ (zF h) (fun (⟨v14,v15,v16⟩:List Int × Int × Int) (_:Unit)=>⟨32,[(0,.ref 100 0),(2,.ref 2 0),(3,.ref 3 0)],[(2,.cells 30 [.d (.sl (List.map PT.e ([]:List PT))),.d (.sl (List.map PT.e ([]:List PT))),.d (.sl (List.map EV.e ([]:List EV)))]),(3,.cells 30 [.d (.sl (List.map PT.e y4.1)),.d (.sl (List.map PT.e y6.1)),.d (.sl (List.map EV.e y8.1))]),(100,.cells 59 [.d (.sl (List.map (eK .u8) v14)),.d (.v (.int .i64 v15)),.d (.v (.int .i64 v16))]),(1100,.pin 100 (pv 100))]⟩) (fun h=>?_) ?_
  ·refine xD h rfl (fun _ h=>?_) (fun _ h=>?_)
   ·(iterate 2 refine g5 ?_);obtain ⟨y18,hy19,h⟩:=zI h;refine xO [(100,100)] [] [100] (zG 4 y8.2.1 y8.2.2.1 y8.2.2.2 y18 hy19) call29 ?_;refine g5 ?_;exact ⟨(y18.1,y18.2.1,y18.2.2),(),h,sP⟩
   ·refine g5 ?_;exact ⟨(y8.2.1,y8.2.2.1,y8.2.2.2),(),h,sP⟩
  ·rintro ⟨v14,v15,v16⟩ _ h;(iterate 9 refine g5 ?_);refine xD h rfl (fun _ h=>?_) (fun _ h=>?_)
   ·(iterate 2 refine g5 ?_);refine ws (LR.build (ns:=[_,_,_]) UM rfl rfl rfl) ?_;(iterate 2 refine g5 ?_);refine wX ?_;cases h;exact EndsO.mkX (ex:=[(2,_)]) () (.inr rfl) (sP (tl:=[(2,_)]) (to:=[(100,_),(1100,_),(2,_)])) (.cons (.agg isAgg30 sizeOf30 rfl rfl rfl)<|.nil) rfl rfl
   ·(iterate 6 refine g5 ?_);refine wX ?_;cases h;exact EndsO.mkX (ex:=[(2,_)]) () (.inr rfl) (sP (tl:=[(2,_)]) (to:=[(100,_),(1100,_),(2,_)])) (.cons (.agg isAgg30 sizeOf30 rfl rfl rfl)<|.nil) rfl rfl


theorem uR (b_1:List Int) (at_2:Int) (bad_3:Int) (r0:Int × List Int × Int × Int) (h:(yh b_1 at_2 bad_3).wp (· = r0)):PObj prog 72 [.ref 100 0] [(100,.cells 59 [.d (.sl (List.map (eK .u8) b_1)),.d (.v (.int .i64 at_2)),.d (.v (.int .i64 bad_3))])] [100] (.d (.v (.int .i64 r0.1))) (fun _:Unit=>[(100,.cells 59 [.d (.sl (List.map (eK .u8) r0.2.1)),.d (.v (.int .i64 r0.2.2.1)),.d (.v (.int .i64 r0.2.2.2))])]):=by
 refine PObj.intro (sl:=[(0,_)]) func72 rfl ntmps72 rfl rfl rfl ?_;intro ctx hK pv;(iterate 13 refine g5 ?_);refine xD h rfl (fun _ h=>?_) (fun _ h=>?_)
 ·(iterate 4 refine g5 ?_);refine wX ?_;cases h;exact EndsO.mk () (.inr rfl) (sP (tl:=[(2,_)]) (to:=[(100,_),(1100,_)])) (.cons (.tmp rfl)<|.nil) rfl rfl
 ·(iterate 3 refine g5 ?_);(iterate 4 refine h5 ?_);refine qs (fun _ U W=>lM (enc:=(eK .u8)) (L:=b_1) underlying22 U) ?_;(iterate 7 refine h5 ?_);refine wX ?_;cases h;exact EndsO.mk () (.inr rfl) (sP (tl:=[(2,_)]) (to:=[(100,_),(1100,_)])) (.cons (.tmp rfl)<|.nil) rfl rfl

theorem ue (b_1:List Int) (at_2:Int) (bad_3:Int) (r0:Int × List Int × Int × Int) (h:(yA b_1 at_2 bad_3).wp (· = r0)):PObj prog 28 [.ref 100 0] [(100,.cells 59 [.d (.sl (List.map (eK .u8) b_1)),.d (.v (.int .i64 at_2)),.d (.v (.int .i64 bad_3))])] [100] (.d (.v (.int .i64 r0.1))) (fun _:Unit=>[(100,.cells 59 [.d (.sl (List.map (eK .u8) r0.2.1)),.d (.v (.int .i64 r0.2.2.1)),.d (.v (.int .i64 r0.2.2.2))])]):=by
 refine PObj.intro (sl:=[(0,_)]) func28 rfl ntmps28 rfl rfl rfl ?_;intro ctx hK pv;(iterate 8 refine g5 ?_);obtain ⟨y4,hy5,h⟩:=zI h;refine xO [(100,100)] [] [100] (uR b_1 at_2 bad_3 y4 hy5) call72 ?_;(iterate 2 refine g5 ?_);refine wJ (zF h) (fun (⟨v6,v7,v8⟩:List Int × Int × Int) (_:Unit)=>⟨12,[(0,.ref 100 0)],[(100,.cells 59 [.d (.sl (List.map (eK .u8) v6)),.d (.v (.int .i64 v7)),.d (.v (.int .i64 v8))]),(1100,.pin 100 (pv 100))]⟩) (fun h=>?_) ?_
 ·refine xD h rfl (fun _ h=>?_) (fun _ h=>?_)
  ·refine wz (tl:=[(0,_)]) (to:=[(100,_),(1100,_)]) ?_;(iterate 2 refine g5 ?_);obtain ⟨y10,hy11,h⟩:=zI h;refine xO [(100,100)] [] [100] (zG 4 y4.2.1 y4.2.2.1 y4.2.2.2 y10 hy11) call29 ?_;refine g5 ?_;exact ⟨(y10.1,y10.2.1,y10.2.2),(),h,sP⟩
  ·refine g5 ?_;exact ⟨(y4.2.1,y4.2.2.1,y4.2.2.2),(),h,sP⟩
 ·rintro ⟨v6,v7,v8⟩ _ h;(iterate 8 refine g5 ?_);refine wX ?_;cases h;exact EndsO.mk () (.inr rfl) (sP (tl:=[(2,_)]) (to:=[(100,_),(1100,_)])) (.cons (.tmp rfl)<|.nil) rfl rfl

theorem Vl (b1:List Int) (r0:TMsg × Int) (h:(YC b1).wp (· = r0)):PFun prog 8 [.d (.sl (List.map (eK .u8) b1))] (.tup [.agg (List.map .d (TMsg.e r0.1)),.d (.v (.int .i64 r0.2))]):=by
 refine fI (sl:=[(0,_)]) func8 rfl ntmps8 rfl rfl ?_;intro ctx hK;(iterate 8 refine g5 ?_);obtain ⟨v2,hy3,h⟩:=zI h;refine xN (xSa b1 v2 hy3) call21 ?_;(iterate 14 refine g5 ?_);refine xD h rfl (fun _ h=>?_) (fun _ h=>?_)
 ·(iterate 2 refine g5 ?_);refine ws (LR.build (ns:=[_,_,_,_,_,_,_,_,_,_,_]) Zj rfl rfl rfl) ?_;(iterate 4 refine g5 ?_);refine wX ?_;cases h;exact ⟨.inr rfl,_,.cons (.agg isAgg32 sizeOf32 rfl rfl rfl rfl)<|.cons (.tmp rfl rfl)<|.nil,rfl⟩
 ·(iterate 3 refine g5 ?_);refine wJ (zF h) (fun (v5:Bool) (_:Unit)=>⟨107,[(2,.ref 2 0),(4,.d (.v (.int .u8 v2.1))),(5,.d (.sl (List.map (eK .u8) v2.2.1))),(24,.d (.v (.bool v5)))],[(2,.cells 32 [.d (.v (.int .u8 0)),.d (.v (.int .u8 0)),.d (.v (.int .u64 0)),.d (.v (.int .u16 0)),.d (.v (.int .u64 0)),.d (.v (.int .u8 0)),.d (.sl (List.map PT.e ([]:List PT))),.d (.sl (List.map PT.e ([]:List PT))),.d (.sl (List.map PT.e ([]:List PT))),.d (.sl (List.map PT.e ([]:List PT))),.d (.sl (List.map EV.e ([]:List EV)))])]⟩) (fun h=>?_) ?_
  ·(iterate 4 refine g5 ?_);refine xG (d:=21) h rfl (fun _ h=>?_) (fun _ h=>?_)
   ·(iterate 4 refine g5 ?_);exact ⟨true,(),h,sP⟩
   ·(iterate 4 refine g5 ?_);exact ⟨(decide (9 < v2.1)),(),h,sP⟩
  ·rintro v5 _ h;refine xD h rfl (fun _ h=>?_) (fun _ h=>?_)
   ·(iterate 2 refine g5 ?_);refine ws (LR.build (ns:=[_,_,_,_,_,_,_,_,_,_,_]) Zj rfl rfl rfl) ?_;(iterate 3 refine g5 ?_);refine wX ?_;cases h;exact ⟨.inr rfl,_,.cons (.agg isAgg32 sizeOf32 rfl rfl rfl rfl)<|.cons (.tmp rfl rfl)<|.nil,rfl⟩
   ·(iterate 4 refine g5 ?_);refine ws (LR.build (ns:=[_,_,_,_,_,_,_,_,_,_,_]) Zj rfl rfl rfl) ?_;(iterate 6 refine g5 ?_);refine ws (LR.build (ns:=[_,_,_]) build59 rfl rfl rfl) ?_;(iterate 9 refine g5 ?_);refine wJ (zF h) (fun (⟨v8,v9,v10,m11,m12⟩:List Int × Int × Int × Int × Int) (_:Unit)=>⟨107,[(2,.ref 2 0),(4,.d (.v (.int .u8 v2.1))),(7,.ref 7 0),(8,.ref 30 0)],[(2,.cells 32 [.d (.v (.int .u8 0)),.d (.v (.int .u8 0)),.d (.v (.int .u64 0)),.d (.v (.int .u16 0)),.d (.v (.int .u64 0)),.d (.v (.int .u8 0)),.d (.sl (List.map PT.e ([]:List PT))),.d (.sl (List.map PT.e ([]:List PT))),.d (.sl (List.map PT.e ([]:List PT))),.d (.sl (List.map PT.e ([]:List PT))),.d (.sl (List.map EV.e ([]:List EV)))]),(7,.cells 32 [.d (.v (.int .u8 v2.1)),.d (.v (.int .u8 m11)),.d (.v (.int .u64 m12)),.d (.v (.int .u16 0)),.d (.v (.int .u64 0)),.d (.v (.int .u8 0)),.d (.sl (List.map PT.e ([]:List PT))),.d (.sl (List.map PT.e ([]:List PT))),.d (.sl (List.map PT.e ([]:List PT))),.d (.sl (List.map PT.e ([]:List PT))),.d (.sl (List.map EV.e ([]:List EV)))]),(30,.cells 59 [.d (.sl (List.map (eK .u8) v8)),.d (.v (.int .i64 v9)),.d (.v (.int .i64 v10))])]⟩) (fun h=>?_) ?_
    ·refine xD h rfl (fun _ h=>?_) (fun _ h=>?_)
     ·(iterate 3 refine g5 ?_);obtain ⟨y14,hy15,h⟩:=zI h;refine xO [(100,30)] [] [100] (yB v2.2.1 0 0 y14 hy15) call22 ?_;(iterate 3 refine g5 ?_);refine wz (tl:=[(2,_),(4,_),(7,_),(8,_)]) (to:=[(2,_),(7,_),(30,_)]) ?_;(iterate 2 refine g5 ?_);obtain ⟨y16,hy17,h⟩:=zI h;refine xO [(100,30)] [] [100] (zK y14.2.1 y14.2.2.1 y14.2.2.2 y16 hy17) call23 ?_;(iterate 3 refine g5 ?_);exact ⟨(y16.2.1,y16.2.2.1,y16.2.2.2,y14.1,y16.1),(),h,sP⟩
     ·refine g5 ?_;exact ⟨(v2.2.1,0,0,0,0),(),h,sP⟩
    ·rintro ⟨v8,v9,v10,m11,m12⟩ _ h;(iterate 6 refine g5 ?_);refine wJ (zF h) (fun (⟨v18,v19,v20,m21,m22⟩:List Int × Int × Int × Int × Int) (_:Unit)=>⟨107,[(2,.ref 2 0),(4,.d (.v (.int .u8 v2.1))),(7,.ref 7 0),(8,.ref 30 0)],[(2,.cells 32 [.d (.v (.int .u8 0)),.d (.v (.int .u8 0)),.d (.v (.int .u64 0)),.d (.v (.int .u16 0)),.d (.v (.int .u64 0)),.d (.v (.int .u8 0)),.d (.sl (List.map PT.e ([]:List PT))),.d (.sl (List.map PT.e ([]:List PT))),.d (.sl (List.map PT.e ([]:List PT))),.d (.sl (List.map PT.e ([]:List PT))),.d (.sl (List.map EV.e ([]:List EV)))]),(7,.cells 32 [.d (.v (.int .u8 v2.1)),.d (.v (.int .u8 m11)),.d (.v (.int .u64 m12)),.d (.v (.int .u16 m21)),.d (.v (.int .u64 m22)),.d (.v (.int .u8 0)),.d (.sl (List.map PT.e ([]:List PT))),.d (.sl (List.map PT.e ([]:List PT))),.d (.sl (List.map PT.e ([]:List PT))),.d (.sl (List.map PT.e ([]:List PT))),.d (.sl (List.map EV.e ([]:List EV)))]),(30,.cells 59 [.d (.sl (List.map (eK .u8) v18)),.d (.v (.int .i64 v19)),.d (.v (.int .i64 v20))])]⟩) (fun h=>?_) ?_
     ·refine xD h rfl (fun _ h=>?_) (fun _ h=>?_)
      ·(iterate 3 refine g5 ?_);obtain ⟨y24,hy25,h⟩:=zI h;refine xO [(100,30)] [] [100] (yS 65535 v8 v9 v10 y24 hy25) call24 ?_;refine ws (LR.convInt underlying25 (by rw [underlying24];rfl) rfl rfl) ?_;(iterate 3 refine g5 ?_);refine wz (tl:=[(2,_),(4,_),(7,_),(8,_)]) (to:=[(2,_),(7,_),(30,_)]) ?_;(iterate 2 refine g5 ?_);obtain ⟨y26,hy27,h⟩:=zI h;refine xO [(100,30)] [] [100] (zK y24.2.1 y24.2.2.1 y24.2.2.2 y26 hy27) call23 ?_;(iterate 3 refine g5 ?_);exact ⟨(y26.2.1,y26.2.2.1,y26.2.2.2,(IntKind.u16.wrap y24.1),y26.1),(),h,sP⟩
      ·refine g5 ?_;exact ⟨(v8,v9,v10,0,0),(),h,sP⟩
     ·rintro ⟨v18,v19,v20,m21,m22⟩ _ h;(iterate 6 refine g5 ?_);refine wJ (zF h) (fun (⟨v28,v29,v30,m31⟩:List Int × Int × Int × Int) (_:Unit)=>⟨107,[(2,.ref 2 0),(4,.d (.v (.int .u8 v2.1))),(7,.ref 7 0),(8,.ref 30 0)],[(2,.cells 32 [.d (.v (.int .u8 0)),.d (.v (.int .u8 0)),.d (.v (.int .u64 0)),.d (.v (.int .u16 0)),.d (.v (.int .u64 0)),.d (.v (.int .u8 0)),.d (.sl (List.map PT.e ([]:List PT))),.d (.sl (List.map PT.e ([]:List PT))),.d (.sl (List.map PT.e ([]:List PT))),.d (.sl (List.map PT.e ([]:List PT))),.d (.sl (List.map EV.e ([]:List EV)))]),(7,.cells 32 [.d (.v (.int .u8 v2.1)),.d (.v (.int .u8 m11)),.d (.v (.int .u64 m12)),.d (.v (.int .u16 m21)),.d (.v (.int .u64 m22)),.d (.v (.int .u8 m31)),.d (.sl (List.map PT.e ([]:List PT))),.d (.sl (List.map PT.e ([]:List PT))),.d (.sl (List.map PT.e ([]:List PT))),.d (.sl (List.map PT.e ([]:List PT))),.d (.sl (List.map EV.e ([]:List EV)))]),(30,.cells 59 [.d (.sl (List.map (eK .u8) v28)),.d (.v (.int .i64 v29)),.d (.v (.int .i64 v30))])]⟩) (fun h=>?_) ?_
      ·refine xD h rfl (fun _ h=>?_) (fun _ h=>?_)
       ·(iterate 2 refine g5 ?_);obtain ⟨y33,hy34,h⟩:=zI h;refine xO [(100,30)] [] [100] (yB v18 v19 v20 y33 hy34) call22 ?_;(iterate 3 refine g5 ?_);exact ⟨(y33.2.1,y33.2.2.1,y33.2.2.2,y33.1),(),h,sP⟩
       ·refine g5 ?_;exact ⟨(v18,v19,v20,0),(),h,sP⟩
      ·rintro ⟨v28,v29,v30,m31⟩ _ h;(iterate 2 refine g5 ?_);refine wJ (zF h) (fun (v35:Bool) (_:Unit)=>⟨107,[(2,.ref 2 0),(4,.d (.v (.int .u8 v2.1))),(7,.ref 7 0),(8,.ref 30 0),(62,.d (.v (.bool v35)))],[(2,.cells 32 [.d (.v (.int .u8 0)),.d (.v (.int .u8 0)),.d (.v (.int .u64 0)),.d (.v (.int .u16 0)),.d (.v (.int .u64 0)),.d (.v (.int .u8 0)),.d (.sl (List.map PT.e ([]:List PT))),.d (.sl (List.map PT.e ([]:List PT))),.d (.sl (List.map PT.e ([]:List PT))),.d (.sl (List.map PT.e ([]:List PT))),.d (.sl (List.map EV.e ([]:List EV)))]),(7,.cells 32 [.d (.v (.int .u8 v2.1)),.d (.v (.int .u8 m11)),.d (.v (.int .u64 m12)),.d (.v (.int .u16 m21)),.d (.v (.int .u64 m22)),.d (.v (.int .u8 m31)),.d (.sl (List.map PT.e ([]:List PT))),.d (.sl (List.map PT.e ([]:List PT))),.d (.sl (List.map PT.e ([]:List PT))),.d (.sl (List.map PT.e ([]:List PT))),.d (.sl (List.map EV.e ([]:List EV)))]),(30,.cells 59 [.d (.sl (List.map (eK .u8) v28)),.d (.v (.int .i64 v29)),.d (.v (.int .i64 v30))])]⟩) (fun h=>?_) ?_
       ·(iterate 4 refine g5 ?_);refine xG (d:=55) h rfl (fun _ h=>?_) (fun _ h=>?_)
        ·(iterate 8 refine g5 ?_);exact ⟨true,(),h,sP⟩
        ·(iterate 3 refine g5 ?_);refine xG (d:=58) h rfl (fun _ h=>?_) (fun _ h=>?_)
         ·(iterate 5 refine g5 ?_);exact ⟨(decide (v2.1 <= 7)),(),h,sP⟩
         ·(iterate 5 refine g5 ?_);exact ⟨false,(),h,sP⟩
       ·rintro v35 _ h;refine wJ (zF h) (fun (⟨v38,v39,v40,m41⟩:List Int × Int × Int × List PT) (_:Unit)=>⟨107,[(2,.ref 2 0),(4,.d (.v (.int .u8 v2.1))),(7,.ref 7 0),(8,.ref 30 0)],[(2,.cells 32 [.d (.v (.int .u8 0)),.d (.v (.int .u8 0)),.d (.v (.int .u64 0)),.d (.v (.int .u16 0)),.d (.v (.int .u64 0)),.d (.v (.int .u8 0)),.d (.sl (List.map PT.e ([]:List PT))),.d (.sl (List.map PT.e ([]:List PT))),.d (.sl (List.map PT.e ([]:List PT))),.d (.sl (List.map PT.e ([]:List PT))),.d (.sl (List.map EV.e ([]:List EV)))]),(7,.cells 32 [.d (.v (.int .u8 v2.1)),.d (.v (.int .u8 m11)),.d (.v (.int .u64 m12)),.d (.v (.int .u16 m21)),.d (.v (.int .u64 m22)),.d (.v (.int .u8 m31)),.d (.sl (List.map PT.e m41)),.d (.sl (List.map PT.e ([]:List PT))),.d (.sl (List.map PT.e ([]:List PT))),.d (.sl (List.map PT.e ([]:List PT))),.d (.sl (List.map EV.e ([]:List EV)))]),(30,.cells 59 [.d (.sl (List.map (eK .u8) v38)),.d (.v (.int .i64 v39)),.d (.v (.int .i64 v40))])]⟩) (fun h=>?_) ?_
        ·refine xD h rfl (fun _ h=>?_) (fun _ h=>?_)
         ·(iterate 2 refine g5 ?_);obtain ⟨y43,hy44,h⟩:=zI h;refine xO [(100,30)] [] [100] (Zg v28 v29 v30 y43 hy44) call25 ?_;(iterate 3 refine g5 ?_);exact ⟨(y43.2.1,y43.2.2.1,y43.2.2.2,y43.1),(),h,sP⟩
         ·refine g5 ?_;exact ⟨(v28,v29,v30,([]:List PT)),(),h,sP⟩
        ·rintro ⟨v38,v39,v40,m41⟩ _ h;(iterate 2 refine g5 ?_);refine wJ (zF h) (fun (v45:Bool) (_:Unit)=>⟨107,[(2,.ref 2 0),(4,.d (.v (.int .u8 v2.1))),(7,.ref 7 0),(8,.ref 30 0),(71,.d (.v (.bool v45)))],[(2,.cells 32 [.d (.v (.int .u8 0)),.d (.v (.int .u8 0)),.d (.v (.int .u64 0)),.d (.v (.int .u16 0)),.d (.v (.int .u64 0)),.d (.v (.int .u8 0)),.d (.sl (List.map PT.e ([]:List PT))),.d (.sl (List.map PT.e ([]:List PT))),.d (.sl (List.map PT.e ([]:List PT))),.d (.sl (List.map PT.e ([]:List PT))),.d (.sl (List.map EV.e ([]:List EV)))]),(7,.cells 32 [.d (.v (.int .u8 v2.1)),.d (.v (.int .u8 m11)),.d (.v (.int .u64 m12)),.d (.v (.int .u16 m21)),.d (.v (.int .u64 m22)),.d (.v (.int .u8 m31)),.d (.sl (List.map PT.e m41)),.d (.sl (List.map PT.e ([]:List PT))),.d (.sl (List.map PT.e ([]:List PT))),.d (.sl (List.map PT.e ([]:List PT))),.d (.sl (List.map EV.e ([]:List EV)))]),(30,.cells 59 [.d (.sl (List.map (eK .u8) v38)),.d (.v (.int .i64 v39)),.d (.v (.int .i64 v40))])]⟩) (fun h=>?_) ?_
         ·(iterate 4 refine g5 ?_);refine xG (d:=68) h rfl (fun _ h=>?_) (fun _ h=>?_)
          ·(iterate 4 refine g5 ?_);exact ⟨true,(),h,sP⟩
          ·(iterate 4 refine g5 ?_);exact ⟨(decide (v2.1 = 4)),(),h,sP⟩
         ·rintro v45 _ h;refine wJ (zF h) (fun (⟨v47,v48,v49,m50,m51,m52⟩:List Int × Int × Int × List PT × List PT × List EV) (_:Unit)=>⟨107,[(2,.ref 2 0),(4,.d (.v (.int .u8 v2.1))),(7,.ref 7 0),(8,.ref 30 0)],[(2,.cells 32 [.d (.v (.int .u8 0)),.d (.v (.int .u8 0)),.d (.v (.int .u64 0)),.d (.v (.int .u16 0)),.d (.v (.int .u64 0)),.d (.v (.int .u8 0)),.d (.sl (List.map PT.e ([]:List PT))),.d (.sl (List.map PT.e ([]:List PT))),.d (.sl (List.map PT.e ([]:List PT))),.d (.sl (List.map PT.e ([]:List PT))),.d (.sl (List.map EV.e ([]:List EV)))]),(7,.cells 32 [.d (.v (.int .u8 v2.1)),.d (.v (.int .u8 m11)),.d (.v (.int .u64 m12)),.d (.v (.int .u16 m21)),.d (.v (.int .u64 m22)),.d (.v (.int .u8 m31)),.d (.sl (List.map PT.e m41)),.d (.sl (List.map PT.e ([]:List PT))),.d (.sl (List.map PT.e m50)),.d (.sl (List.map PT.e m51)),.d (.sl (List.map EV.e m52))]),(30,.cells 59 [.d (.sl (List.map (eK .u8) v47)),.d (.v (.int .i64 v48)),.d (.v (.int .i64 v49))])]⟩) (fun h=>?_) ?_
          ·refine xD h rfl (fun _ h=>?_) (fun _ h=>?_)
           ·(iterate 2 refine g5 ?_);obtain ⟨y54,hy55,h⟩:=zI h;refine xO [(100,30)] [] [100] (qH v38 v39 v40 y54 hy55) call26 ?_;(iterate 3 refine g5 ?_);exact ⟨(y54.2.1,y54.2.2.1,y54.2.2.2,y54.1.from_,y54.1.to_,y54.1.events),(),h,sP⟩
           ·refine g5 ?_;exact ⟨(v38,v39,v40,([]:List PT),([]:List PT),([]:List EV)),(),h,sP⟩
          ·rintro ⟨v47,v48,v49,m50,m51,m52⟩ _ h;(iterate 6 refine g5 ?_);refine wJ (zF h) (fun (⟨v56,v57,v58,m59⟩:List Int × Int × Int × List EV) (_:Unit)=>⟨107,[(2,.ref 2 0),(4,.d (.v (.int .u8 v2.1))),(7,.ref 7 0),(8,.ref 30 0)],[(2,.cells 32 [.d (.v (.int .u8 0)),.d (.v (.int .u8 0)),.d (.v (.int .u64 0)),.d (.v (.int .u16 0)),.d (.v (.int .u64 0)),.d (.v (.int .u8 0)),.d (.sl (List.map PT.e ([]:List PT))),.d (.sl (List.map PT.e ([]:List PT))),.d (.sl (List.map PT.e ([]:List PT))),.d (.sl (List.map PT.e ([]:List PT))),.d (.sl (List.map EV.e ([]:List EV)))]),(7,.cells 32 [.d (.v (.int .u8 v2.1)),.d (.v (.int .u8 m11)),.d (.v (.int .u64 m12)),.d (.v (.int .u16 m21)),.d (.v (.int .u64 m22)),.d (.v (.int .u8 m31)),.d (.sl (List.map PT.e m41)),.d (.sl (List.map PT.e ([]:List PT))),.d (.sl (List.map PT.e m50)),.d (.sl (List.map PT.e m51)),.d (.sl (List.map EV.e m59))]),(30,.cells 59 [.d (.sl (List.map (eK .u8) v56)),.d (.v (.int .i64 v57)),.d (.v (.int .i64 v58))])]⟩) (fun h=>?_) ?_
           ·refine xD h rfl (fun _ h=>?_) (fun _ h=>?_)
            ·(iterate 2 refine g5 ?_);obtain ⟨y61,hy62,h⟩:=zI h;refine xO [(100,30)] [] [100] (XZ 4 v47 v48 v49 y61 hy62) call27 ?_;(iterate 4 refine g5 ?_);exact ⟨(y61.2.1,y61.2.2.1,y61.2.2.2,y61.1),(),h,sP⟩
            ·refine g5 ?_;exact ⟨(v47,v48,v49,m52),(),h,sP⟩
           ·rintro ⟨v56,v57,v58,m59⟩ _ h;(iterate 6 refine g5 ?_);refine wJ (zF h) (fun (⟨v63,v64,v65,m66⟩:List Int × Int × Int × List PT) (_:Unit)=>⟨107,[(2,.ref 2 0),(7,.ref 7 0),(8,.ref 30 0)],[(2,.cells 32 [.d (.v (.int .u8 0)),.d (.v (.int .u8 0)),.d (.v (.int .u64 0)),.d (.v (.int .u16 0)),.d (.v (.int .u64 0)),.d (.v (.int .u8 0)),.d (.sl (List.map PT.e ([]:List PT))),.d (.sl (List.map PT.e ([]:List PT))),.d (.sl (List.map PT.e ([]:List PT))),.d (.sl (List.map PT.e ([]:List PT))),.d (.sl (List.map EV.e ([]:List EV)))]),(7,.cells 32 [.d (.v (.int .u8 v2.1)),.d (.v (.int .u8 m11)),.d (.v (.int .u64 m12)),.d (.v (.int .u16 m21)),.d (.v (.int .u64 m22)),.d (.v (.int .u8 m31)),.d (.sl (List.map PT.e m41)),.d (.sl (List.map PT.e m66)),.d (.sl (List.map PT.e m50)),.d (.sl (List.map PT.e m51)),.d (.sl (List.map EV.e m59))]),(30,.cells 59 [.d (.sl (List.map (eK .u8) v63)),.d (.v (.int .i64 v64)),.d (.v (.int .i64 v65))])]⟩) (fun h=>?_) ?_
            ·refine xD h rfl (fun _ h=>?_) (fun _ h=>?_)
             ·(iterate 2 refine g5 ?_);obtain ⟨y68,hy69,h⟩:=zI h;refine xO [(100,30)] [] [100] (Zg v56 v57 v58 y68 hy69) call25 ?_;(iterate 3 refine g5 ?_);exact ⟨(y68.2.1,y68.2.2.1,y68.2.2.2,y68.1),(),h,sP⟩
             ·refine g5 ?_;exact ⟨(v56,v57,v58,([]:List PT)),(),h,sP⟩
            ·rintro ⟨v63,v64,v65,m66⟩ _ h;(iterate 2 refine g5 ?_);refine wJ (zF h) (fun (⟨v70,v71,v72,v73⟩:Bool × List Int × Int × Int) (_:Unit)=>⟨107,[(2,.ref 2 0),(7,.ref 7 0),(8,.ref 30 0),(93,.d (.v (.bool v70)))],[(2,.cells 32 [.d (.v (.int .u8 0)),.d (.v (.int .u8 0)),.d (.v (.int .u64 0)),.d (.v (.int .u16 0)),.d (.v (.int .u64 0)),.d (.v (.int .u8 0)),.d (.sl (List.map PT.e ([]:List PT))),.d (.sl (List.map PT.e ([]:List PT))),.d (.sl (List.map PT.e ([]:List PT))),.d (.sl (List.map PT.e ([]:List PT))),.d (.sl (List.map EV.e ([]:List EV)))]),(7,.cells 32 [.d (.v (.int .u8 v2.1)),.d (.v (.int .u8 m11)),.d (.v (.int .u64 m12)),.d (.v (.int .u16 m21)),.d (.v (.int .u64 m22)),.d (.v (.int .u8 m31)),.d (.sl (List.map PT.e m41)),.d (.sl (List.map PT.e m66)),.d (.sl (List.map PT.e m50)),.d (.sl (List.map PT.e m51)),.d (.sl (List.map EV.e m59))]),(30,.cells 59 [.d (.sl (List.map (eK .u8) v71)),.d (.v (.int .i64 v72)),.d (.v (.int .i64 v73))])]⟩) (fun h=>?_) ?_
             ·(iterate 2 refine g5 ?_);obtain ⟨y74,hy75,h⟩:=zI h;refine xO [(100,30)] [] [100] (ue v63 v64 v65 y74 hy75) call28 ?_;(iterate 2 refine g5 ?_);refine xG (d:=89) h rfl (fun _ h=>?_) (fun _ h=>?_)
              ·refine g5 ?_;obtain ⟨v77,hy78,h⟩:=zI h;refine wt (cN (xPa (⟨v2.1,m11,m12,m21,m22,m31,m41,m66,(⟨m50,m51,m59⟩:DL)⟩:TMsg) v77 hy78) rfl call12 rfl rfl rfl rfl) ?_;(iterate 3 refine g5 ?_);exact ⟨((!v77),y74.2.1,y74.2.2.1,y74.2.2.2),(),h,sP⟩
              ·(iterate 5 refine g5 ?_);exact ⟨(false,y74.2.1,y74.2.2.1,y74.2.2.2),(),h,sP⟩
             ·rintro ⟨v70,v71,v72,v73⟩ _ h;refine wJ (zF h) (fun (⟨v79,v80,v81⟩:List Int × Int × Int) (_:Unit)=>⟨107,[(2,.ref 2 0),(7,.ref 7 0),(8,.ref 30 0)],[(2,.cells 32 [.d (.v (.int .u8 0)),.d (.v (.int .u8 0)),.d (.v (.int .u64 0)),.d (.v (.int .u16 0)),.d (.v (.int .u64 0)),.d (.v (.int .u8 0)),.d (.sl (List.map PT.e ([]:List PT))),.d (.sl (List.map PT.e ([]:List PT))),.d (.sl (List.map PT.e ([]:List PT))),.d (.sl (List.map PT.e ([]:List PT))),.d (.sl (List.map EV.e ([]:List EV)))]),(7,.cells 32 [.d (.v (.int .u8 v2.1)),.d (.v (.int .u8 m11)),.d (.v (.int .u64 m12)),.d (.v (.int .u16 m21)),.d (.v (.int .u64 m22)),.d (.v (.int .u8 m31)),.d (.sl (List.map PT.e m41)),.d (.sl (List.map PT.e m66)),.d (.sl (List.map PT.e m50)),.d (.sl (List.map PT.e m51)),.d (.sl (List.map EV.e m59))]),(30,.cells 59 [.d (.sl (List.map (eK .u8) v79)),.d (.v (.int .i64 v80)),.d (.v (.int .i64 v81))])]⟩) (fun h=>?_) ?_
              ·refine xD h rfl (fun _ h=>?_) (fun _ h=>?_)
               ·(iterate 2 refine g5 ?_);obtain ⟨y83,hy84,h⟩:=zI h;refine xO [(100,30)] [] [100] (zG 4 v71 v72 v73 y83 hy84) call29 ?_;refine g5 ?_;exact ⟨(y83.1,y83.2.1,y83.2.2),(),h,sP⟩
               ·refine g5 ?_;exact ⟨(v71,v72,v73),(),h,sP⟩
              ·rintro ⟨v79,v80,v81⟩ _ h;(iterate 9 refine g5 ?_);refine xD h rfl (fun _ h=>?_) (fun _ h=>?_)
               ·refine g5 ?_;refine wz (tl:=[(2,_),(8,_)]) (to:=[(2,_),(30,_)]) ?_;refine PWc.regionE [{ws:=[101]},⟨[102],[],[],[],[],[30],[],[]⟩,⟨[103],[],[],[],[],[30],[],[]⟩,⟨[104],[],[],[],[],[30],[],[]⟩,⟨[105],[],[30],[],[],[],[],[]⟩,⟨[],[2],[2],[],[],[],[],[]⟩,{ws:=[3]}] (by kernel_rfl) (by kernel_rfl) rfl ?_;refine kp (fun _ U W=>LR.build (ns:=[_,_,_,_,_,_,_,_,_,_,_]) Zj rfl (evpE (fun a b=>U a b) rfl rfl) rfl) ?_;(iterate 4 refine h5 ?_);refine ks (fun _ U W=>sB (ns:=[_,_,_,_,_,_,_,_,_,_,_]) sizeOf32 U U rfl rfl (W rfl rfl) rfl rfl) ?_;refine h5 ?_;refine PQe.nil<|wX ?_;cases h;exact ⟨.inr rfl,_,.cons (.agg isAgg32 sizeOf32 rfl rfl rfl rfl)<|.cons (.tmp rfl rfl)<|.nil,rfl⟩
               ·(iterate 7 refine g5 ?_);refine wX ?_;cases h;exact ⟨.inr rfl,_,.cons (.agg isAgg32 sizeOf32 rfl rfl rfl rfl)<|.cons (.tmp rfl rfl)<|.nil,rfl⟩

theorem xUa (a1:List DT) (b2:List DT) (r0:Bool) (h:(jO a1 b2).wp (· = r0)):PFun prog 151 [.d (.sl (List.map DT.e a1)),.d (.sl (List.map DT.e b2))] (.d (.v (.bool r0))):=by
 refine fI (sl:=[(0,_),(1,_)]) func151 rfl ntmps151 rfl rfl ?_;intro ctx hK;(iterate 13 refine g5 ?_);refine xD h rfl (fun _ h=>?_) (fun _ h=>?_)
 ·(iterate 4 refine g5 ?_);refine wX ?_;cases h;exact xT
 ·(iterate 6 refine g5 ?_);refine PWc.jnX (zF h) (fun (_:Unit) (_:Unit)=>⟨26,[],[]⟩) (fun h=>?_) ?_
  ·refine g5 ?_;refine wM (fun (i17:Int) (_:Unit)=>⟨26,[(0,.d (.sl (List.map DT.e a1))),(1,.d (.sl (List.map DT.e b2))),(5,.d (.v (.int .i64 i17)))],[]⟩) () h (sP) ?_;rintro N i17 _ h;(iterate 8 refine g5 ?_);refine xD h rfl (fun _ h=>?_) (fun _ h=>?_)
   ·(iterate 5 refine g5 ?_);(iterate 2 refine h5 ?_);obtain ⟨x19,hy20,h⟩:=yF h;refine qs (fun _ U W=>iX (enc:=DT.e) (L:=a1) (y:=x19) underlying106 sizeOf105 U U hy20 (fun _=>rfl)) ?_;(iterate 3 refine h5 ?_);obtain ⟨x21,hy22,h⟩:=yF h;refine qs (fun _ U W=>iX (enc:=DT.e) (L:=b2) (y:=x21) underlying106 sizeOf105 U U hy22 (fun _=>rfl)) ?_;refine h5 ?_;refine qs (fun _ U W=>LR.neqAgg U U rfl rfl zma) ?_;refine h5 ?_;refine xD h rfl (fun _ h=>?_) (fun _ h=>?_)
    ·(iterate 4 refine g5 ?_);refine wX ?_;cases h;exact xT
    ·(iterate 6 refine g5 ?_);exact ⟨(IntKind.i64.wrap (i17 + 1)),(),h,sP⟩
   ·refine wZ ?_;exact ⟨(),(),h,sP⟩
  ·rintro _ _ h;(iterate 4 refine g5 ?_);refine wX ?_;cases h;exact xT

theorem xVa (a1:EV) (b2:EV) (r0:Bool) (h:(jP a1 b2).wp (· = r0)):PFun prog 110 [.agg (List.map .d (EV.e a1)),.agg (List.map .d (EV.e b2))] (.d (.v (.bool r0))):=by
 refine fI (sl:=[(0,_),(1,_)]) func110 rfl ntmps110 rfl rfl ?_;intro ctx hK;(iterate 7 refine g5 ?_);refine wJ (zF h) (fun (v3:Bool) (_:Unit)=>⟨45,[(4,.d (.v (.bool v3)))],[]⟩) (fun h=>?_) ?_
 ·(iterate 5 refine g5 ?_);refine ws (LR.eqlAgg rfl rfl rfl rfl zma) ?_;refine g5 ?_;refine xG (d:=10) h rfl (fun _ h=>?_) (fun _ h=>?_)
  ·(iterate 7 refine g5 ?_);refine xG (d:=17) h rfl (fun _ h=>?_) (fun _ h=>?_)
   ·refine g5 ?_;refine wy (tl:=[(2,_),(3,_),(4,_),(17,_),(18,_)]) (to:=[(2,_),(3,_)]) ?_;(iterate 6 refine g5 ?_);refine xG (d:=24) h rfl (fun _ h=>?_) (fun _ h=>?_)
    ·(iterate 7 refine g5 ?_);refine xG (d:=31) h rfl (fun _ h=>?_) (fun _ h=>?_)
     ·refine g5 ?_;refine wy (tl:=[(2,_),(3,_),(4,_),(31,_),(32,_)]) (to:=[(2,_),(3,_)]) ?_;(iterate 6 refine g5 ?_);refine xG (d:=38) h rfl (fun _ h=>?_) (fun _ h=>?_)
      ·(iterate 4 refine g5 ?_);obtain ⟨v9,hy10,h⟩:=zI h;refine wt (cN (xUa a1.kills b2.kills v9 hy10) rfl call151 rfl rfl rfl rfl) ?_;(iterate 3 refine g5 ?_);exact ⟨v9,(),h,sP⟩
      ·(iterate 8 refine g5 ?_);exact ⟨false,(),h,sP⟩
     ·refine g5 ?_;refine wy (tl:=[(2,_),(3,_),(4,_),(31,_),(32,_)]) (to:=[(2,_),(3,_)]) ?_;(iterate 14 refine g5 ?_);exact ⟨false,(),h,sP⟩
    ·(iterate 9 refine g5 ?_);refine wy (tl:=[(2,_),(3,_),(4,_),(31,_),(33,_)]) (to:=[(2,_),(3,_)]) ?_;(iterate 13 refine g5 ?_);exact ⟨false,(),h,sP⟩
   ·refine g5 ?_;refine wy (tl:=[(2,_),(3,_),(4,_),(17,_),(18,_)]) (to:=[(2,_),(3,_)]) ?_;(iterate 16 refine g5 ?_);refine wy (tl:=[(2,_),(3,_),(4,_),(31,_),(33,_),(34,_)]) (to:=[(2,_),(3,_)]) ?_;(iterate 12 refine g5 ?_);exact ⟨false,(),h,sP⟩
  ·(iterate 9 refine g5 ?_);refine wy (tl:=[(2,_),(3,_),(4,_),(17,_),(19,_)]) (to:=[(2,_),(3,_)]) ?_;(iterate 16 refine g5 ?_);refine wy (tl:=[(2,_),(3,_),(4,_),(31,_),(33,_),(35,_)]) (to:=[(2,_),(3,_)]) ?_;(iterate 11 refine g5 ?_);exact ⟨false,(),h,sP⟩
 ·rintro v3 _ h;refine wX ?_;cases h;exact xT


theorem vba (a1:List EV) (b2:List EV) (r0:Bool) (h:(QS a1 b2).wp (· = r0)):PFun prog 76 [.d (.sl (List.map EV.e a1)),.d (.sl (List.map EV.e b2))] (.d (.v (.bool r0))):=by
 refine fI (sl:=[(0,_),(1,_)]) func76 rfl ntmps76 rfl rfl ?_;intro ctx hK;(iterate 13 refine g5 ?_);refine xD h rfl (fun _ h=>?_) (fun _ h=>?_)
 ·(iterate 4 refine g5 ?_);refine wX ?_;cases h;exact xT
 ·(iterate 6 refine g5 ?_);refine PWc.jnX (zF h) (fun (_:Unit) (_:Unit)=>⟨27,[],[]⟩) (fun h=>?_) ?_
  ·refine g5 ?_;refine wM (fun (i21:Int) (_:Unit)=>⟨27,[(0,.d (.sl (List.map EV.e a1))),(1,.d (.sl (List.map EV.e b2))),(5,.d (.v (.int .i64 i21)))],[]⟩) () h (sP) ?_;rintro N i21 _ h;(iterate 8 refine g5 ?_);refine xD h rfl (fun _ h=>?_) (fun _ h=>?_)
   ·(iterate 5 refine g5 ?_);(iterate 2 refine h5 ?_);obtain ⟨x23,hy24,h⟩:=yF h;refine qs (fun _ U W=>iX (enc:=EV.e) (L:=a1) (y:=x23) underlying28 sizeOf108 U U hy24 (fun _=>rfl)) ?_;(iterate 3 refine h5 ?_);obtain ⟨x25,hy26,h⟩:=yF h;refine qs (fun _ U W=>iX (enc:=EV.e) (L:=b2) (y:=x25) underlying28 sizeOf108 U U hy26 (fun _=>rfl)) ?_;refine h5 ?_;obtain ⟨v27,hy28,h⟩:=zI h;refine qs (fun _ U W=>cN (xVa x23 x25 v27 hy28) U call110 (vu (fun a b=>U a b) rfl rfl) rfl rfl rfl) ?_;(iterate 2 refine h5 ?_);refine xD h rfl (fun _ h=>?_) (fun _ h=>?_)
    ·(iterate 4 refine g5 ?_);refine wX ?_;cases h;exact xT
    ·(iterate 6 refine g5 ?_);exact ⟨(IntKind.i64.wrap (i21 + 1)),(),h,sP⟩
   ·refine wZ ?_;exact ⟨(),(),h,sP⟩
  ·rintro _ _ h;(iterate 4 refine g5 ?_);refine wX ?_;cases h;exact xT

theorem xWa (a1:DL) (b2:DL) (r0:Bool) (h:(Va a1 b2).wp (· = r0)):PFun prog 32 [.agg (List.map .d (DL.e a1)),.agg (List.map .d (DL.e b2))] (.d (.v (.bool r0))):=by
 refine fI (sl:=[(0,_),(1,_)]) func32 rfl ntmps32 rfl rfl ?_;intro ctx hK;(iterate 7 refine g5 ?_);refine wJ (zF h) (fun (v3:Bool) (_:Unit)=>⟨24,[(4,.d (.v (.bool v3)))],[]⟩) (fun h=>?_) ?_
 ·(iterate 5 refine g5 ?_);obtain ⟨v4,hy5,h⟩:=zI h;refine xN (xj a1.from_ b2.from_ v4 hy5) call31 ?_;refine g5 ?_;refine xG (d:=10) h rfl (fun _ h=>?_) (fun _ h=>?_)
  ·(iterate 4 refine g5 ?_);obtain ⟨v7,hy8,h⟩:=zI h;refine wt (cN (xj a1.to_ b2.to_ v7 hy8) rfl call31 rfl rfl rfl rfl) ?_;(iterate 2 refine g5 ?_);refine xG (d:=17) h rfl (fun _ h=>?_) (fun _ h=>?_)
   ·refine g5 ?_;refine wy (tl:=[(3,_),(4,_),(17,_),(18,_)]) (to:=[(2,_),(3,_)]) ?_;(iterate 3 refine g5 ?_);obtain ⟨v10,hy11,h⟩:=zI h;refine wt (cN (vba a1.events b2.events v10 hy11) rfl call76 rfl rfl rfl rfl) ?_;(iterate 3 refine g5 ?_);exact ⟨v10,(),h,sP⟩
   ·refine g5 ?_;refine wy (tl:=[(3,_),(4,_),(17,_),(18,_)]) (to:=[(3,_)]) ?_;(iterate 7 refine g5 ?_);exact ⟨false,(),h,sP⟩
  ·(iterate 9 refine g5 ?_);refine wy (tl:=[(3,_),(4,_),(17,_),(19,_)]) (to:=[(3,_)]) ?_;(iterate 6 refine g5 ?_);exact ⟨false,(),h,sP⟩
 ·rintro v3 _ h;refine wX ?_;cases h;exact xT

theorem JN (a1:TMsg) (b2:TMsg) (r0:Bool) (h:(Vb a1 b2).wp (· = r0)):PFun prog 10 [.agg (List.map .d (TMsg.e a1)),.agg (List.map .d (TMsg.e b2))] (.d (.v (.bool r0))):=by
 refine fI (sl:=[(0,_),(1,_)]) func10 rfl ntmps10 rfl rfl ?_;intro ctx hK;(iterate 8 refine g5 ?_);refine wJ (zF h) (fun (v3:Bool) (_:Unit)=>⟨64,[(2,.ref 2 0),(3,.ref 3 0),(44,.d (.v (.bool v3)))],[(2,.cells 32 [.d (.v (.int .u8 a1.kind)),.d (.v (.int .u8 a1.slot)),.d (.v (.int .u64 a1.try_)),.d (.v (.int .u16 a1.dev)),.d (.v (.int .u64 a1.epoch)),.d (.v (.int .u8 a1.why)),.d (.sl (List.map PT.e a1.have_)),.d (.sl (List.map PT.e a1.front)),.d (.sl (List.map PT.e a1.delta.from_)),.d (.sl (List.map PT.e a1.delta.to_)),.d (.sl (List.map EV.e a1.delta.events))]),(3,.cells 32 [.d (.v (.int .u8 b2.kind)),.d (.v (.int .u8 b2.slot)),.d (.v (.int .u64 b2.try_)),.d (.v (.int .u16 b2.dev)),.d (.v (.int .u64 b2.epoch)),.d (.v (.int .u8 b2.why)),.d (.sl (List.map PT.e b2.have_)),.d (.sl (List.map PT.e b2.front)),.d (.sl (List.map PT.e b2.delta.from_)),.d (.sl (List.map PT.e b2.delta.to_)),.d (.sl (List.map EV.e b2.delta.events))])]⟩) (fun h=>?_) ?_
 ·(iterate 7 refine g5 ?_);refine xG (d:=10) h rfl (fun _ h=>?_) (fun _ h=>?_)
  ·(iterate 9 refine g5 ?_);refine wy (tl:=[(2,_),(3,_),(17,_),(19,_)]) (to:=[(2,_),(3,_)]) ?_;(iterate 17 refine g5 ?_);refine wy (tl:=[(2,_),(3,_),(31,_),(36,_)]) (to:=[(2,_),(3,_)]) ?_;(iterate 9 refine g5 ?_);exact ⟨true,(),h,sP⟩
  ·(iterate 7 refine g5 ?_);refine xG (d:=17) h rfl (fun _ h=>?_) (fun _ h=>?_)
   ·refine g5 ?_;refine wy (tl:=[(2,_),(3,_),(17,_),(18,_)]) (to:=[(2,_),(3,_)]) ?_;(iterate 17 refine g5 ?_);refine wy (tl:=[(2,_),(3,_),(31,_),(33,_),(35,_)]) (to:=[(2,_),(3,_)]) ?_;(iterate 10 refine g5 ?_);exact ⟨true,(),h,sP⟩
   ·refine g5 ?_;refine wy (tl:=[(2,_),(3,_),(17,_),(18,_)]) (to:=[(2,_),(3,_)]) ?_;(iterate 6 refine g5 ?_);refine xG (d:=24) h rfl (fun _ h=>?_) (fun _ h=>?_)
    ·(iterate 10 refine g5 ?_);refine wy (tl:=[(2,_),(3,_),(31,_),(33,_),(34,_)]) (to:=[(2,_),(3,_)]) ?_;(iterate 11 refine g5 ?_);exact ⟨true,(),h,sP⟩
    ·(iterate 7 refine g5 ?_);refine xG (d:=31) h rfl (fun _ h=>?_) (fun _ h=>?_)
     ·(iterate 2 refine g5 ?_);refine wy (tl:=[(2,_),(3,_),(31,_),(33,_)]) (to:=[(2,_),(3,_)]) ?_;(iterate 12 refine g5 ?_);exact ⟨true,(),h,sP⟩
     ·(iterate 2 refine g5 ?_);refine wy (tl:=[(2,_),(3,_),(31,_),(33,_)]) (to:=[(2,_),(3,_)]) ?_;(iterate 5 refine g5 ?_);refine xG (d:=38) h rfl (fun _ h=>?_) (fun _ h=>?_)
      ·(iterate 7 refine g5 ?_);exact ⟨true,(),h,sP⟩
      ·(iterate 7 refine g5 ?_);exact ⟨(!decide (a1.why = b2.why)),(),h,sP⟩
 ·rintro v3 _ h;refine xD h rfl (fun _ h=>?_) (fun _ h=>?_)
  ·(iterate 4 refine g5 ?_);refine wX ?_;cases h;exact xT
  ·(iterate 2 refine g5 ?_);refine wJ (zF h) (fun (v10:Bool) (_:Unit)=>⟨64,[(4,.d (.v (.bool v10)))],[]⟩) (fun h=>?_) ?_
   ·(iterate 5 refine g5 ?_);obtain ⟨v11,hy12,h⟩:=zI h;refine xN (xj a1.have_ b2.have_ v11 hy12) call31 ?_;refine g5 ?_;refine xG (d:=50) h rfl (fun _ h=>?_) (fun _ h=>?_)
    ·(iterate 4 refine g5 ?_);obtain ⟨v14,hy15,h⟩:=zI h;refine wt (cN (xj a1.front b2.front v14 hy15) rfl call31 rfl rfl rfl rfl) ?_;(iterate 2 refine g5 ?_);refine xG (d:=57) h rfl (fun _ h=>?_) (fun _ h=>?_)
     ·(iterate 3 refine g5 ?_);refine wy (tl:=[(57,_),(59,_),(60,_)]) (to:=[(3,_)]) ?_;refine g5 ?_;obtain ⟨v17,hy18,h⟩:=zI h;refine wt (cN (xWa a1.delta b2.delta v17 hy18) rfl call32 rfl rfl rfl rfl) ?_;(iterate 3 refine g5 ?_);exact ⟨v17,(),h,sP⟩
     ·(iterate 3 refine g5 ?_);refine wy (tl:=[(57,_),(59,_),(60,_)]) (to:=[]) ?_;(iterate 5 refine g5 ?_);exact ⟨false,(),h,sP⟩
    ·(iterate 11 refine g5 ?_);refine wy (tl:=[(57,_),(59,_),(61,_)]) (to:=[]) ?_;(iterate 4 refine g5 ?_);exact ⟨false,(),h,sP⟩
   ·rintro v10 _ h;refine wX ?_;cases h;exact xT

theorem UU (b1:List Int) (kind2:Int) (r0:Bool) (h:(vl b1 kind2).wp (· = r0)):PFunL (Tab 0 .u32 tabG) prog 3 [.d (.sl (List.map (eK .u8) b1)),.d (.v (.int .u8 kind2))] (.d (.v (.bool r0))):=by
 refine PFunL.intro (sl:=[(0,_),(1,_)]) func3 rfl ntmps3 rfl rfl ?_;intro ctx hK hT;(iterate 11 refine g5 ?_);refine xD h rfl (fun _ h=>?_) (fun _ h=>?_)
 ·(iterate 2 refine g5 ?_);obtain ⟨v4,hy5,h⟩:=zI h;refine ws (LR.callL hT (Us v4 hy5) rfl call6 rfl rfl rfl rfl) ?_;(iterate 2 refine g5 ?_);refine wX ?_;cases h;exact xT
 ·(iterate 4 refine g5 ?_);obtain ⟨v6,hy7,h⟩:=zI h;refine ws (LR.callL hT (XY b1 v6 hy7) rfl call7 rfl rfl rfl rfl) ?_;(iterate 10 refine g5 ?_);obtain ⟨v8,hy9,h⟩:=zI h;refine xN (Vl b1 v8 hy9) call8 ?_;(iterate 10 refine g5 ?_);refine wy (tl:=[(0,_),(5,_),(6,_),(7,_),(8,_),(28,_)]) (to:=[(5,_),(7,_)]) ?_;refine g5 ?_;obtain ⟨v10,hy11,h⟩:=zI h;refine ws (LR.rowN (JM kind2 b1 v10 hy11) rfl call9 rfl rfl rfl rfl) ?_;(iterate 5 refine g5 ?_);obtain ⟨v12,hy13,h⟩:=zI h;refine PWl.frz [9,30,32] hK (.cons rfl<|.cons rfl<|.cons rfl<|.nil) rfl (by simp) ?_;refine ws (LR.callL hT (XY v10 v12 hy13) rfl call7 rfl rfl rfl rfl) ?_;(iterate 10 refine g5 ?_);obtain ⟨v14,hy15,h⟩:=zI h;refine xN (Vl v10 v14 hy15) call8 ?_;(iterate 3 refine g5 ?_);refine wy (tl:=[(5,_),(6,_),(7,_),(8,_),(10,_),(11,_),(39,_),(40,_)]) (to:=[(5,_),(7,_),(10,_)]) ?_;(iterate 5 refine g5 ?_);refine wJ (zF h) (fun (v16:Bool) (_:Unit)=>⟨62,[(4,.d (.v (.bool v16)))],[]⟩) (fun h=>?_) ?_
  ·(iterate 3 refine g5 ?_);obtain ⟨v17,hy18,h⟩:=zI h;refine xN (JN v6.1 v8.1 v17 hy18) call10 ?_;refine g5 ?_;refine xG (d:=44) h rfl (fun _ h=>?_) (fun _ h=>?_)
   ·(iterate 5 refine g5 ?_);refine xG (d:=49) h rfl (fun _ h=>?_) (fun _ h=>?_)
    ·refine wy (tl:=[(10,_),(11,_),(12,_),(13,_),(49,_)]) (to:=[(10,_),(12,_)]) ?_;(iterate 2 refine g5 ?_);obtain ⟨v21,hy22,h⟩:=zI h;refine wt (cN (JN v12.1 v14.1 v21 hy22) rfl call10 rfl rfl rfl rfl) ?_;(iterate 2 refine g5 ?_);refine xG (d:=54) h rfl (fun _ h=>?_) (fun _ h=>?_)
     ·(iterate 5 refine g5 ?_);refine xG (d:=59) h rfl (fun _ h=>?_) (fun _ h=>?_)
      ·obtain ⟨v25,hy26,h⟩:=zI h;refine wt (LR.callL hT (Us v25 hy26) rfl call6 rfl rfl rfl rfl) ?_;(iterate 3 refine g5 ?_);exact ⟨v25,(),h,sP⟩
      ·(iterate 4 refine g5 ?_);exact ⟨false,(),h,sP⟩
     ·(iterate 9 refine g5 ?_);exact ⟨false,(),h,sP⟩
    ·refine wy (tl:=[(10,_),(11,_),(12,_),(13,_),(49,_)]) (to:=[(10,_),(12,_)]) ?_;(iterate 14 refine g5 ?_);exact ⟨false,(),h,sP⟩
   ·(iterate 6 refine g5 ?_);refine wy (tl:=[(11,_),(12,_),(13,_),(49,_),(50,_)]) (to:=[(12,_)]) ?_;(iterate 13 refine g5 ?_);exact ⟨false,(),h,sP⟩
  ·rintro v16 _ h;refine wX ?_;cases h;exact xT
end Go.Proofs

