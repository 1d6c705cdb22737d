/- Side texts. -/
import Derived.Test.YtnejkopjonigeaaGreatAHb3
import Derived.Test.YtnejkopjonigeaaGreatAHb5
import Derived.Test.YtnejkopjonigeaaGreatAHb6
import Derived.Test.YtnejkopjonigeaaGreatAHb8
import Derived.Test.YtnejkopjonigeaaGreatAHb9
set_option linter.unusedVariables false
set_option linter.unusedSimpArgs false
namespace Go.Proofs
open Go.Ep Tryz
set_option maxHeartbeats 1000000
set_option maxRecDepth 100000
set_option linter.unusedVariables false
set_option linter.unusedSimpArgs false
theorem zCa(a1:List TMember)(b2:List TMember)(r0:Bool)(h:(VX a1 b2).wp (·=r0)):PFun prog 42 [.d (.sl (List.map TMember.e a1)),.d (.sl (List.map TMember.e b2))] (.d (.v (.bool r0))):=by
 refine fI (sl:=[(0,_),(1,_)]) func42 rfl ntmps42 rfl rfl ?_;intro ctx hK;(iterate 13 refine g5 ?_);refine xD h rfl (fun _ h=>?_) (fun _ h=>?_)
 ·(iterate 4 refine g5 ?_);refine wX ?_;cases h;exact xT
 ·(iterate 6 refine g5 ?_);refine PWc.jnX (zS h) (fun(_:Unit) (_:Unit)=>⟨26,[],[]⟩) (fun h=>?_) ?_
  ·refine g5 ?_;refine wM (fun(i17:Int) (_:Unit)=>⟨26,[(0,.d (.sl (List.map TMember.e a1))),(1,.d (.sl (List.map TMember.e b2))),(5,.d (.v (.int .i64 i17)))],[]⟩) () h (sP) ?_;rintro N i17 _ h;(iterate 8 refine g5 ?_);refine xD h rfl (fun _ h=>?_) (fun _ h=>?_)
   ·(iterate 5 refine g5 ?_);(iterate 2 refine h5 ?_);obtain⟨x19,hy20,h⟩:=yc h;refine qs (fun _ U W=>iX (enc:=TMember.e) (L:=a1) (y:=x19) underlying24 sizeOf59 U U hy20 (fun _=>rfl)) ?_;(iterate 3 refine h5 ?_);obtain⟨x21,hy22,h⟩:=yc h;refine qs (fun _ U W=>iX (enc:=TMember.e) (L:=b2) (y:=x21) underlying24 sizeOf59 U U hy22 (fun _=>rfl)) ?_;refine h5 ?_;refine qs (fun _ U W=>LR.neqAgg U U rfl rfl eq59) ?_;refine h5 ?_;refine xD h rfl (fun _ h=>?_) (fun _ h=>?_)
    ·(iterate 4 refine g5 ?_);refine wX ?_;cases h;exact xT
    ·(iterate 6 refine g5 ?_);exact⟨(IntKind.i64.wrap (i17+1)),(),h,sP⟩
   ·refine wZ ?_;exact⟨(),(),h,sP⟩
  ·rintro _ _ h;(iterate 4 refine g5 ?_);refine wX ?_;cases h;exact xT
theorem zDa(a1:List DT)(b2:List DT)(r0:Bool)(h:(VY a1 b2).wp (·=r0)):PFun prog 119 [.d (.sl (List.map DT.e a1)),.d (.sl (List.map DT.e b2))] (.d (.v (.bool r0))):=by
 refine fI (sl:=[(0,_),(1,_)]) func119 rfl ntmps119 rfl rfl ?_;intro ctx hK;(iterate 13 refine g5 ?_);refine xD h rfl (fun _ h=>?_) (fun _ h=>?_)
 ·(iterate 4 refine g5 ?_);refine wX ?_;cases h;exact xT
 ·(iterate 6 refine g5 ?_);refine PWc.jnX (zS h) (fun(_:Unit) (_:Unit)=>⟨26,[],[]⟩) (fun h=>?_) ?_
  ·refine g5 ?_;refine wM (fun(i17:Int) (_:Unit)=>⟨26,[(0,.d (.sl (List.map DT.e a1))),(1,.d (.sl (List.map DT.e b2))),(5,.d (.v (.int .i64 i17)))],[]⟩) () h (sP) ?_;rintro N i17 _ h;(iterate 8 refine g5 ?_);refine xD h rfl (fun _ h=>?_) (fun _ h=>?_)
   ·(iterate 5 refine g5 ?_);(iterate 2 refine h5 ?_);obtain⟨x19,hy20,h⟩:=yc h;refine qs (fun _ U W=>iX (enc:=DT.e) (L:=a1) (y:=x19) underlying102 sizeOf101 U U hy20 (fun _=>rfl)) ?_;(iterate 3 refine h5 ?_);obtain⟨x21,hy22,h⟩:=yc h;refine qs (fun _ U W=>iX (enc:=DT.e) (L:=b2) (y:=x21) underlying102 sizeOf101 U U hy22 (fun _=>rfl)) ?_;refine h5 ?_;refine qs (fun _ U W=>LR.neqAgg U U rfl rfl Qq) ?_;refine h5 ?_;refine xD h rfl (fun _ h=>?_) (fun _ h=>?_)
    ·(iterate 4 refine g5 ?_);refine wX ?_;cases h;exact xT
    ·(iterate 6 refine g5 ?_);exact⟨(IntKind.i64.wrap (i17+1)),(),h,sP⟩
   ·refine wZ ?_;exact⟨(),(),h,sP⟩
  ·rintro _ _ h;(iterate 4 refine g5 ?_);refine wX ?_;cases h;exact xT
theorem zEa(a1:EV)(b2:EV)(r0:Bool)(h:(VZ a1 b2).wp (·=r0)):PFun prog 83 [.agg (List.map .d (EV.e a1)),.agg (List.map .d (EV.e b2))] (.d (.v (.bool r0))):=by
 refine fI (sl:=[(0,_),(1,_)]) func83 rfl ntmps83 rfl rfl ?_;intro ctx hK;(iterate 7 refine g5 ?_);refine wJ (zS h) (fun(v3:Bool) (_:Unit)=>⟨45,[(4,.d (.v (.bool v3)))],[]⟩) (fun h=>?_) ?_
 ·(iterate 5 refine g5 ?_);refine ws (LR.eqlAgg rfl rfl rfl rfl Qq) ?_;refine g5 ?_;refine xG (d:=10) h rfl (fun _ h=>?_) (fun _ h=>?_)
  ·(iterate 7 refine g5 ?_);refine xG (d:=17) h rfl (fun _ h=>?_) (fun _ h=>?_)
   ·refine g5 ?_;refine wy (tl:=[(2,_),(3,_),(4,_),(17,_),(18,_)]) (to:=[(2,_),(3,_)]) ?_;(iterate 6 refine g5 ?_);refine xG (d:=24) h rfl (fun _ h=>?_) (fun _ h=>?_)
    ·(iterate 7 refine g5 ?_);refine xG (d:=31) h rfl (fun _ h=>?_) (fun _ h=>?_)
     ·refine g5 ?_;refine wy (tl:=[(2,_),(3,_),(4,_),(31,_),(32,_)]) (to:=[(2,_),(3,_)]) ?_;(iterate 6 refine g5 ?_);refine xG (d:=38) h rfl (fun _ h=>?_) (fun _ h=>?_)
      ·(iterate 4 refine g5 ?_);obtain⟨v9,hy10,h⟩:=zR h;refine wt (cN (zDa a1.kills b2.kills v9 hy10) rfl call119 rfl rfl rfl rfl) ?_;(iterate 3 refine g5 ?_);exact⟨v9,(),h,sP⟩
      ·(iterate 8 refine g5 ?_);exact⟨false,(),h,sP⟩
     ·refine g5 ?_;refine wy (tl:=[(2,_),(3,_),(4,_),(31,_),(32,_)]) (to:=[(2,_),(3,_)]) ?_;(iterate 14 refine g5 ?_);exact⟨false,(),h,sP⟩
    ·(iterate 9 refine g5 ?_);refine wy (tl:=[(2,_),(3,_),(4,_),(31,_),(33,_)]) (to:=[(2,_),(3,_)]) ?_;(iterate 13 refine g5 ?_);exact⟨false,(),h,sP⟩
   ·refine g5 ?_;refine wy (tl:=[(2,_),(3,_),(4,_),(17,_),(18,_)]) (to:=[(2,_),(3,_)]) ?_;(iterate 16 refine g5 ?_);refine wy (tl:=[(2,_),(3,_),(4,_),(31,_),(33,_),(34,_)]) (to:=[(2,_),(3,_)]) ?_;(iterate 12 refine g5 ?_);exact⟨false,(),h,sP⟩
  ·(iterate 9 refine g5 ?_);refine wy (tl:=[(2,_),(3,_),(4,_),(17,_),(19,_)]) (to:=[(2,_),(3,_)]) ?_;(iterate 16 refine g5 ?_);refine wy (tl:=[(2,_),(3,_),(4,_),(31,_),(33,_),(35,_)]) (to:=[(2,_),(3,_)]) ?_;(iterate 11 refine g5 ?_);exact⟨false,(),h,sP⟩
 ·rintro v3 _ h;refine wX ?_;cases h;exact xT
theorem xIa(a1:List EV)(b2:List EV)(r0:Bool)(h:(jw a1 b2).wp (·=r0)):PFun prog 44 [.d (.sl (List.map EV.e a1)),.d (.sl (List.map EV.e b2))] (.d (.v (.bool r0))):=by
 refine fI (sl:=[(0,_),(1,_)]) func44 rfl ntmps44 rfl rfl ?_;intro ctx hK;(iterate 13 refine g5 ?_);refine xD h rfl (fun _ h=>?_) (fun _ h=>?_)
 ·(iterate 4 refine g5 ?_);refine wX ?_;cases h;exact xT
 ·(iterate 6 refine g5 ?_);refine PWc.jnX (zS h) (fun(_:Unit) (_:Unit)=>⟨27,[],[]⟩) (fun h=>?_) ?_
  ·refine g5 ?_;refine wM (fun(i21:Int) (_:Unit)=>⟨27,[(0,.d (.sl (List.map EV.e a1))),(1,.d (.sl (List.map EV.e b2))),(5,.d (.v (.int .i64 i21)))],[]⟩) () h (sP) ?_;rintro N i21 _ h;(iterate 8 refine g5 ?_);refine xD h rfl (fun _ h=>?_) (fun _ h=>?_)
   ·(iterate 5 refine g5 ?_);(iterate 2 refine h5 ?_);obtain⟨x23,hy24,h⟩:=yc h;refine qs (fun _ U W=>iX (enc:=EV.e) (L:=a1) (y:=x23) underlying29 sizeOf104 U U hy24 (fun _=>rfl)) ?_;(iterate 3 refine h5 ?_);obtain⟨x25,hy26,h⟩:=yc h;refine qs (fun _ U W=>iX (enc:=EV.e) (L:=b2) (y:=x25) underlying29 sizeOf104 U U hy26 (fun _=>rfl)) ?_;refine h5 ?_;obtain⟨v27,hy28,h⟩:=zR h;refine qs (fun _ U W=>cN (zEa x23 x25 v27 hy28) U call83 (ZO (fun a b=>U a b) rfl rfl) rfl rfl rfl) ?_;(iterate 2 refine h5 ?_);refine xD h rfl (fun _ h=>?_) (fun _ h=>?_)
    ·(iterate 4 refine g5 ?_);refine wX ?_;cases h;exact xT
    ·(iterate 6 refine g5 ?_);exact⟨(IntKind.i64.wrap (i21+1)),(),h,sP⟩
   ·refine wZ ?_;exact⟨(),(),h,sP⟩
  ·rintro _ _ h;(iterate 4 refine g5 ?_);refine wX ?_;cases h;exact xT
theorem zFa(a1:THubState)(b2:THubState)(r0:Bool)(h:(WF a1 b2).wp (·=r0)):PFun prog 13 [.agg (List.map .d (THubState.e a1)),.agg (List.map .d (THubState.e b2))] (.d (.v (.bool r0))):=by
 refine fI (sl:=[(0,_),(1,_)]) func13 rfl ntmps13 rfl rfl ?_;intro ctx hK;(iterate 8 refine g5 ?_);refine wJ (zS h) (fun(v3:Bool) (_:Unit)=>⟨115,[(2,.ref 2 0),(3,.ref 3 0),(60,.d (.v (.bool v3)))],[(2,.cells 31 [.d (.v (.int .u64 a1.epoch)),.d (.v (.int .u16 a1.last)),.d (.sl (List.map TMember.e a1.members)),.d (.sl (List.map (eK .u64) a1.tries)),.d (.sl (List.map TRow.e a1.rows)),.d (.sl (List.map PT.e a1.ctx)),.d (.sl (List.map EV.e a1.all))]),(3,.cells 31 [.d (.v (.int .u64 b2.epoch)),.d (.v (.int .u16 b2.last)),.d (.sl (List.map TMember.e b2.members)),.d (.sl (List.map (eK .u64) b2.tries)),.d (.sl (List.map TRow.e b2.rows)),.d (.sl (List.map PT.e b2.ctx)),.d (.sl (List.map EV.e b2.all))])]⟩) (fun h=>?_) ?_
 ·(iterate 7 refine g5 ?_);refine xG (d:=12) h rfl (fun _ h=>?_) (fun _ h=>?_)
  ·(iterate 9 refine g5 ?_);refine wy (tl:=[(2,_),(3,_),(19,_),(21,_)]) (to:=[(2,_),(3,_)]) ?_;(iterate 17 refine g5 ?_);refine wy (tl:=[(2,_),(3,_),(36,_),(38,_)]) (to:=[(2,_),(3,_)]) ?_;(iterate 17 refine g5 ?_);refine wy (tl:=[(2,_),(3,_),(53,_),(55,_)]) (to:=[(2,_),(3,_)]) ?_;(iterate 6 refine g5 ?_);exact⟨true,(),h,sP⟩
  ·(iterate 7 refine g5 ?_);refine xG (d:=19) h rfl (fun _ h=>?_) (fun _ h=>?_)
   ·refine g5 ?_;refine wy (tl:=[(2,_),(3,_),(19,_),(20,_)]) (to:=[(2,_),(3,_)]) ?_;(iterate 17 refine g5 ?_);refine wy (tl:=[(2,_),(3,_),(36,_),(37,_)]) (to:=[(2,_),(3,_)]) ?_;(iterate 17 refine g5 ?_);refine wy (tl:=[(2,_),(3,_),(53,_),(54,_)]) (to:=[(2,_),(3,_)]) ?_;(iterate 7 refine g5 ?_);exact⟨true,(),h,sP⟩
   ·refine g5 ?_;refine wy (tl:=[(2,_),(3,_),(19,_),(20,_)]) (to:=[(2,_),(3,_)]) ?_;(iterate 3 refine g5 ?_);obtain⟨v6,hy7,h⟩:=zR h;refine wt (cN (zCa a1.members b2.members v6 hy7) rfl call42 rfl rfl rfl rfl) ?_;(iterate 3 refine g5 ?_);refine xG (d:=27) h rfl (fun _ h=>?_) (fun _ h=>?_)
    ·(iterate 9 refine g5 ?_);refine wy (tl:=[(2,_),(3,_),(36,_)]) (to:=[(2,_),(3,_)]) ?_;(iterate 18 refine g5 ?_);refine wy (tl:=[(2,_),(3,_),(53,_),(54,_)]) (to:=[(2,_),(3,_)]) ?_;(iterate 7 refine g5 ?_);exact⟨true,(),h,sP⟩
    ·(iterate 9 refine g5 ?_);refine wy (tl:=[(2,_),(3,_),(36,_)]) (to:=[(2,_),(3,_)]) ?_;refine xG (d:=36) h rfl (fun _ h=>?_) (fun _ h=>?_)
     ·(iterate 17 refine g5 ?_);refine wy (tl:=[(2,_),(3,_),(53,_)]) (to:=[(2,_),(3,_)]) ?_;(iterate 8 refine g5 ?_);exact⟨true,(),h,sP⟩
     ·(iterate 9 refine g5 ?_);refine xG (d:=45) h rfl (fun _ h=>?_) (fun _ h=>?_)
      ·(iterate 7 refine g5 ?_);refine wy (tl:=[(2,_),(3,_),(52,_)]) (to:=[(2,_),(3,_)]) ?_;(iterate 9 refine g5 ?_);exact⟨true,(),h,sP⟩
      ·(iterate 4 refine g5 ?_);obtain⟨v11,hy12,h⟩:=zR h;refine wt (cN (qd a1.ctx b2.ctx v11 hy12) rfl call43 rfl rfl rfl rfl) ?_;(iterate 2 refine g5 ?_);refine wy (tl:=[(2,_),(3,_),(52,_)]) (to:=[(2,_),(3,_)]) ?_;refine g5 ?_;refine xG (d:=53) h rfl (fun _ h=>?_) (fun _ h=>?_)
       ·(iterate 8 refine g5 ?_);exact⟨true,(),h,sP⟩
       ·(iterate 4 refine g5 ?_);obtain⟨v14,hy15,h⟩:=zR h;refine wt (cN (xIa a1.all b2.all v14 hy15) rfl call44 rfl rfl rfl rfl) ?_;(iterate 3 refine g5 ?_);exact⟨(!v14),(),h,sP⟩
 ·rintro v3 _ h;refine xD h rfl (fun _ h=>?_) (fun _ h=>?_)
  ·(iterate 4 refine g5 ?_);refine wX ?_;cases h;exact xT
  ·(iterate 6 refine g5 ?_);refine PWc.jnX (zS h) (fun(_:Unit) (_:Unit)=>⟨115,[(2,.ref 2 0),(3,.ref 3 0)],[(2,.cells 31 [.d (.v (.int .u64 a1.epoch)),.d (.v (.int .u16 a1.last)),.d (.sl (List.map TMember.e a1.members)),.d (.sl (List.map (eK .u64) a1.tries)),.d (.sl (List.map TRow.e a1.rows)),.d (.sl (List.map PT.e a1.ctx)),.d (.sl (List.map EV.e a1.all))]),(3,.cells 31 [.d (.v (.int .u64 b2.epoch)),.d (.v (.int .u16 b2.last)),.d (.sl (List.map TMember.e b2.members)),.d (.sl (List.map (eK .u64) b2.tries)),.d (.sl (List.map TRow.e b2.rows)),.d (.sl (List.map PT.e b2.ctx)),.d (.sl (List.map EV.e b2.all))])]⟩) (fun h=>?_) ?_
   ·refine g5 ?_;refine wM (fun(i30:Int) (_:Unit)=>⟨115,[(2,.ref 2 0),(3,.ref 3 0),(5,.d (.v (.int .i64 i30)))],[(2,.cells 31 [.d (.v (.int .u64 a1.epoch)),.d (.v (.int .u16 a1.last)),.d (.sl (List.map TMember.e a1.members)),.d (.sl (List.map (eK .u64) a1.tries)),.d (.sl (List.map TRow.e a1.rows)),.d (.sl (List.map PT.e a1.ctx)),.d (.sl (List.map EV.e a1.all))]),(3,.cells 31 [.d (.v (.int .u64 b2.epoch)),.d (.v (.int .u16 b2.last)),.d (.sl (List.map TMember.e b2.members)),.d (.sl (List.map (eK .u64) b2.tries)),.d (.sl (List.map TRow.e b2.rows)),.d (.sl (List.map PT.e b2.ctx)),.d (.sl (List.map EV.e b2.all))])]⟩) () h (sP) ?_;rintro N i30 _ h;(iterate 9 refine g5 ?_);refine xD h rfl (fun _ h=>?_) (fun _ h=>?_)
    ·(iterate 5 refine g5 ?_);(iterate 3 refine h5 ?_);obtain⟨x32,hy33,h⟩:=yc h;refine qs (fun _ U W=>iX (enc:=(eK .u64)) (L:=a1.tries) (y:=x32) underlying25 sizeOf22 U U hy33 (fun _=>rfl)) ?_;(iterate 4 refine h5 ?_);obtain⟨x34,hy35,h⟩:=yc h;refine qs (fun _ U W=>iX (enc:=(eK .u64)) (L:=b2.tries) (y:=x34) underlying25 sizeOf22 U U hy35 (fun _=>rfl)) ?_;(iterate 3 refine h5 ?_);refine xD h rfl (fun _ h=>?_) (fun _ h=>?_)
     ·(iterate 4 refine g5 ?_);refine wX ?_;cases h;exact xT
     ·(iterate 4 refine g5 ?_);refine wy (tl:=[(2,_),(3,_),(5,_),(67,_)]) (to:=[(2,_),(3,_)]) ?_;(iterate 2 refine g5 ?_);exact⟨(IntKind.i64.wrap (i30+1)),(),h,sP⟩
    ·refine wZ ?_;exact⟨(),(),h,sP⟩
   ·rintro _ _ h;(iterate 5 refine g5 ?_);refine PWc.jnX (zS h) (fun(_:Unit) (_:Unit)=>⟨115,[],[]⟩) (fun h=>?_) ?_
    ·refine g5 ?_;refine wM (fun(i66:Int) (_:Unit)=>⟨115,[(2,.ref 2 0),(3,.ref 3 0),(6,.d (.v (.int .i64 i66)))],[(2,.cells 31 [.d (.v (.int .u64 a1.epoch)),.d (.v (.int .u16 a1.last)),.d (.sl (List.map TMember.e a1.members)),.d (.sl (List.map (eK .u64) a1.tries)),.d (.sl (List.map TRow.e a1.rows)),.d (.sl (List.map PT.e a1.ctx)),.d (.sl (List.map EV.e a1.all))]),(3,.cells 31 [.d (.v (.int .u64 b2.epoch)),.d (.v (.int .u16 b2.last)),.d (.sl (List.map TMember.e b2.members)),.d (.sl (List.map (eK .u64) b2.tries)),.d (.sl (List.map TRow.e b2.rows)),.d (.sl (List.map PT.e b2.ctx)),.d (.sl (List.map EV.e b2.all))])]⟩) () h (sP) ?_;rintro N i66 _ h;(iterate 9 refine g5 ?_);refine xD h rfl (fun _ h=>?_) (fun _ h=>?_)
     ·(iterate 4 refine g5 ?_);refine wJ (zS h) (fun(v68:Bool) (_:Unit)=>⟨115,[(2,.ref 2 0),(3,.ref 3 0),(6,.d (.v (.int .i64 i66))),(114,.d (.v (.bool v68)))],[(2,.cells 31 [.d (.v (.int .u64 a1.epoch)),.d (.v (.int .u16 a1.last)),.d (.sl (List.map TMember.e a1.members)),.d (.sl (List.map (eK .u64) a1.tries)),.d (.sl (List.map TRow.e a1.rows)),.d (.sl (List.map PT.e a1.ctx)),.d (.sl (List.map EV.e a1.all))]),(3,.cells 31 [.d (.v (.int .u64 b2.epoch)),.d (.v (.int .u16 b2.last)),.d (.sl (List.map TMember.e b2.members)),.d (.sl (List.map (eK .u64) b2.tries)),.d (.sl (List.map TRow.e b2.rows)),.d (.sl (List.map PT.e b2.ctx)),.d (.sl (List.map EV.e b2.all))])]⟩) (fun h=>?_) ?_
      ·refine g5 ?_;(iterate 3 refine h5 ?_);obtain⟨x69,hy70,h⟩:=yc h;refine qs (fun _ U W=>iX (enc:=TRow.e) (L:=a1.rows) (y:=x69) underlying26 sizeOf51 U U hy70 (fun _=>rfl)) ?_;(iterate 5 refine h5 ?_);obtain⟨x71,hy72,h⟩:=yc h;refine qs (fun _ U W=>iX (enc:=TRow.e) (L:=b2.rows) (y:=x71) underlying26 sizeOf51 U U hy72 (fun _=>rfl)) ?_;(iterate 4 refine h5 ?_);refine xQ (d:=99) h rfl (fun _ h=>?_) (fun _ h=>?_)
       ·(iterate 14 refine h5 ?_);refine kK (tl:=[(2,_),(3,_),(6,_),(99,_),(100,_),(101,_),(102,_),(103,_),(104,_),(105,_),(106,_),(107,_),(108,_),(109,_),(110,_),(111,_),(112,_),(113,_)]) ?_;(iterate 2 refine h5 ?_);exact⟨true,(),h,sP⟩
       ·(iterate 3 refine h5 ?_);obtain⟨x74,hy75,h⟩:=yc h;refine qt (fun _ U W=>iX (enc:=TRow.e) (L:=a1.rows) (y:=x74) underlying26 sizeOf51 U U hy75 (fun _=>rfl)) ?_;(iterate 5 refine h5 ?_);obtain⟨x76,hy77,h⟩:=yc h;refine qt (fun _ U W=>iX (enc:=TRow.e) (L:=b2.rows) (y:=x76) underlying26 sizeOf51 U U hy77 (fun _=>rfl)) ?_;(iterate 2 refine h5 ?_);obtain⟨v78,hy79,h⟩:=zR h;refine qt (fun _ U W=>cN (qd x74.have_ x76.have_ v78 hy79) U call43 (ZO (fun a b=>U a b) rfl rfl) rfl rfl rfl) ?_;refine h5 ?_;refine kK (tl:=[(2,_),(3,_),(6,_),(99,_),(100,_),(101,_),(102,_),(103,_),(104,_),(105,_),(106,_),(107,_),(108,_),(109,_),(110,_),(111,_),(112,_),(113,_)]) ?_;(iterate 2 refine h5 ?_);exact⟨(!v78),(),h,sP⟩
      ·rintro v68 _ h;refine xD h rfl (fun _ h=>?_) (fun _ h=>?_)
       ·(iterate 4 refine g5 ?_);refine wX ?_;cases h;exact xT
       ·(iterate 6 refine g5 ?_);exact⟨(IntKind.i64.wrap (i66+1)),(),h,sP⟩
     ·refine wZ ?_;exact⟨(),(),h,sP⟩
    ·rintro _ _ h;(iterate 4 refine g5 ?_);refine wX ?_;cases h;exact xT
theorem VJ(s1:THubState)(b2:List Int)(r0:Bool)(h:(uF s1 b2).wp (·=r0)):PFun prog 5 [.agg (List.map .d (THubState.e s1)),.d (.sl (List.map (eK .u8) b2))] (.d (.v (.bool r0))):=by
 refine fI (sl:=[(0,_),(1,_)]) func5 rfl ntmps5 rfl rfl ?_;intro ctx hK;(iterate 7 refine g5 ?_);refine wJ (zS h) (fun(v3:Bool) (_:Unit)=>⟨63,[(1,.d (.sl (List.map (eK .u8) b2))),(2,.ref 2 0),(20,.d (.v (.bool v3)))],[(2,.cells 31 [.d (.v (.int .u64 s1.epoch)),.d (.v (.int .u16 s1.last)),.d (.sl (List.map TMember.e s1.members)),.d (.sl (List.map (eK .u64) s1.tries)),.d (.sl (List.map TRow.e s1.rows)),.d (.sl (List.map PT.e s1.ctx)),.d (.sl (List.map EV.e s1.all))])]⟩) (fun h=>?_) ?_
 ·(iterate 2 refine g5 ?_);obtain⟨v4,hy5,h⟩:=zR h;refine xN (xFa s1 v4 hy5) call6 ?_;(iterate 2 refine g5 ?_);refine xG (d:=16) h rfl (fun _ h=>?_) (fun _ h=>?_)
  ·(iterate 5 refine g5 ?_);exact⟨true,(),h,sP⟩
  ·(iterate 5 refine g5 ?_);exact⟨(decide (1500 < (b2.length:Int))),(),h,sP⟩
 ·rintro v3 _ h;refine xD h rfl (fun _ h=>?_) (fun _ h=>?_)
  ·(iterate 2 refine g5 ?_);obtain⟨v8,hy9,h⟩:=zR h;refine xN (VD v8 hy9) call7 ?_;(iterate 2 refine g5 ?_);refine wX ?_;cases h;exact xT
  ·(iterate 4 refine g5 ?_);obtain⟨v10,hy11,h⟩:=zR h;refine xN (Yg s1 v10 hy11) call8 ?_;(iterate 12 refine g5 ?_);refine PWc.jnX (zS h) (fun(_:Unit) (_:Unit)=>⟨63,[(1,.d (.sl (List.map (eK .u8) b2)))],[]⟩) (fun h=>?_) ?_
   ·refine xD h rfl (fun _ h=>?_) (fun _ h=>?_)
    ·(iterate 3 refine g5 ?_);obtain⟨v13,hy14,h⟩:=zR h;refine xN (VE v10.1 v13 hy14) call11 ?_;(iterate 8 refine g5 ?_);refine wJ (zS h) (fun(v15:Bool) (_:Unit)=>⟨63,[(1,.d (.sl (List.map (eK .u8) b2))),(41,.d (.v (.bool v15)))],[]⟩) (fun h=>?_) ?_
     ·(iterate 3 refine g5 ?_);refine wy (tl:=[(1,_),(2,_),(7,_),(35,_)]) (to:=[(2,_),(7,_)]) ?_;refine g5 ?_;refine xG (d:=36) h rfl (fun _ h=>?_) (fun _ h=>?_)
      ·(iterate 6 refine g5 ?_);exact⟨true,(),h,sP⟩
      ·(iterate 2 refine g5 ?_);obtain⟨v17,hy18,h⟩:=zR h;refine wt (cN (zFa s1 v13.1 v17 hy18) rfl call13 rfl rfl rfl rfl) ?_;(iterate 3 refine g5 ?_);exact⟨(!v17),(),h,sP⟩
     ·rintro v15 _ h;refine xD h rfl (fun _ h=>?_) (fun _ h=>?_)
      ·(iterate 4 refine g5 ?_);refine wX ?_;cases h;exact xT
      ·refine g5 ?_;exact⟨(),(),h,sP⟩
    ·refine g5 ?_;exact⟨(),(),h,sP⟩
   ·rintro _ _ h;(iterate 3 refine g5 ?_);obtain⟨v20,hy21,h⟩:=zR h;refine xN (VE b2 v20 hy21) call11 ?_;(iterate 13 refine g5 ?_);refine PWc.jnX (zS h) (fun(_:Unit) (_:Unit)=>⟨63,[],[]⟩) (fun h=>?_) ?_
    ·refine xD h rfl (fun _ h=>?_) (fun _ h=>?_)
     ·(iterate 3 refine g5 ?_);obtain⟨v23,hy24,h⟩:=zR h;refine xN (Yg v20.1 v23 hy24) call8 ?_;(iterate 7 refine g5 ?_);refine wJ (zS h) (fun(v25:Bool) (_:Unit)=>⟨63,[(61,.d (.v (.bool v25)))],[]⟩) (fun h=>?_) ?_
      ·(iterate 4 refine g5 ?_);refine xG (d:=56) h rfl (fun _ h=>?_) (fun _ h=>?_)
       ·refine wy (tl:=[(1,_),(11,_),(56,_)]) (to:=[]) ?_;(iterate 6 refine g5 ?_);exact⟨true,(),h,sP⟩
       ·refine wy (tl:=[(1,_),(11,_),(56,_)]) (to:=[]) ?_;(iterate 2 refine g5 ?_);obtain⟨v27,hy28,h⟩:=zR h;refine wt (cN (VC v23.1 b2 v27 hy28) rfl call10 rfl rfl rfl rfl) ?_;(iterate 3 refine g5 ?_);exact⟨(!v27),(),h,sP⟩
      ·rintro v25 _ h;refine xD h rfl (fun _ h=>?_) (fun _ h=>?_)
       ·(iterate 4 refine g5 ?_);refine wX ?_;cases h;exact xT
       ·refine g5 ?_;exact⟨(),(),h,sP⟩
     ·refine g5 ?_;exact⟨(),(),h,sP⟩
    ·rintro _ _ h;(iterate 2 refine g5 ?_);obtain⟨v30,hy31,h⟩:=zR h;refine xN (VD v30 hy31) call7 ?_;(iterate 2 refine g5 ?_);refine wX ?_;cases h;exact xT
end Go.Proofs
namespace Go.Ep
open Go
theorem XZ{n:Int}(h:-9223372036854775808<=n)(h':n<=9223372036854775807):IntKind.i64.wrap n=n:=by simp[IntKind.wrap,IntKind.bits,IntKind.signed];omega
theorem Wj{n:Int}(h:0<=n)(h':n<=18446744073709551615):IntKind.u64.wrap n=n:=by simp[IntKind.wrap,IntKind.bits,IntKind.signed];omega
theorem wU16{n:Int}(h:0<=n)(h':n<=65535):IntKind.u16.wrap n=n:=by simp[IntKind.wrap,IntKind.bits,IntKind.signed];omega
theorem wU8{n:Int}(h:0<=n)(h':n<=255):IntKind.u8.wrap n=n:=by simp[IntKind.wrap,IntKind.bits,IntKind.signed];omega
theorem yt{i:Nat}(h:i < 9223372036854775807):IntKind.i64.wrap ((i:Int)+1)=((i+1:Nat):Int):=by rw[XZ (by omega) (by omega)];rfl
namespace M
variable{α β σ ρ τ ε:Type}
theorem wb(p:Prop)[Decidable p](x y:M α):cond (decide p) x y=if p then x else y:=by by_cases h:p <;> simp[h]
theorem zGa{body:σ->M (Step σ ρ)}(l:List ε)(mk:Nat->τ->σ)(f:τ->ε->τ)(g:τ->M ρ)
  (I:Nat->τ->Prop) (h1:∀ (i:Nat) (x:ε) (t:τ),l[i]?=some x->i < l.length->I i t->body (mk i t)=pure (.next (mk (i+1) (f t x)))/\I (i+1) (f t x))
  (h2:∀ t,I l.length t->body (mk l.length t)=(g t).bind fun r=>pure (.done r)) (t0:τ) (h0:I 0 t0):loop body (mk 0 t0)=g (l.foldl f t0):=by
 have key:∀ k i t,i+k=l.length->I i t->loop body (mk i t)=g ((l.drop i).foldl f t):=by
  intro k
  induction k with
  | zero=>
   intro i t hi hI;have:i=l.length:=by omega
   subst this;rw[Vv,h2 t hI,List.drop_length]
   rfl
  | succ k ih=>
   intro i t hi hI;have hlt:i < l.length:=by omega
   obtain⟨h3,h4⟩:=h1 i l[i] t (List.getElem?_eq_getElem hlt) hlt hI;rw[zg h3,ih (i+1) _ (by omega) h4,List.drop_eq_getElem_cons hlt]
   rfl
 simpa using key l.length 0 t0 (by omega) h0
theorem loopF{body:σ->M (Step σ ρ)}(l:List ε)(mk:Nat->σ)(p:Nat->ε->Bool)(r:Nat->ε->ρ)(d:M ρ)
  (h1:∀ (i:Nat) (x:ε),l[i]?=some x->i < l.length->body (mk i)=if p i x then pure (.done (r i x)) else pure (.next (mk (i+1))))
  (h2:body (mk l.length)=d.bind fun r=>pure (.done r)):loop body (mk 0)=match (l.zipIdx).find? (fun y=>p y.2 y.1) with | some y=>pure (r y.2 y.1) | none=>d:=by
 have key:∀ k i,i+k=l.length->loop body (mk i)=match ((l.drop i).zipIdx i).find? (fun y=>p y.2 y.1) with | some y=>pure (r y.2 y.1) | none=>d:=by
  intro k
  induction k with
  | zero=>
   intro i hi;have:i=l.length:=by omega
   subst this;rw[Vv,h2,List.drop_length]
   rfl
  | succ k ih=>
   intro i hi;have hlt:i < l.length:=by omega
   have h3:=h1 i l[i] (List.getElem?_eq_getElem hlt) hlt;rw[List.drop_eq_getElem_cons hlt,List.zipIdx_cons,List.find?_cons]
   by_cases hp:p i l[i]=true
   ·rw[if_pos hp] at h3;rw[zV h3];simp[hp]
   ·rw[if_neg hp] at h3;rw[zg h3,ih (i+1) (by omega)];simp[hp]
 simpa using key l.length 0 (by omega)
theorem vL{body:σ->M (Step σ ρ)}(l:List ε)(mk:Nat->σ)(p:Nat->ε->Bool)(r1 r2:ρ)
  (h1:∀ (i:Nat) (x:ε),l[i]?=some x->i < l.length->body (mk i)=if p i x then pure (.next (mk (i+1))) else pure (.done r2))
  (h2:body (mk l.length)=pure (.done r1)):loop body (mk 0)=pure (if l.zipIdx.all (fun y=>p y.2 y.1) then r1 else r2):=by
 have key:∀ k i,i+k=l.length->loop body (mk i)=pure (if ((l.drop i).zipIdx i).all (fun y=>p y.2 y.1) then r1 else r2):=by
  intro k
  induction k with
  | zero=>
   intro i hi;have:i=l.length:=by omega
   subst this;rw[zV h2,List.drop_length]
   rfl
  | succ k ih=>
   intro i hi;have hlt:i < l.length:=by omega
   have h3:=h1 i l[i] (List.getElem?_eq_getElem hlt) hlt;rw[List.drop_eq_getElem_cons hlt,List.zipIdx_cons,List.all_cons]
   by_cases hp:p i l[i]=true
   ·rw[if_pos hp] at h3;rw[zg h3,ih (i+1) (by omega),hp,Bool.true_and]
   ·rw[if_neg hp] at h3;rw[zV h3];simp[hp]
 have:=key l.length 0 (by omega);rw[List.drop_zero] at this;exact this
def came{ε:Type}(m:List ε)(L:List Nat):List ε:=L.filterMap fun i=>m[i]?
theorem wYa{m:List ε}{L:List Nat}{i:Nat}{y:ε}(h:m[i]?=some y):came m (L++[i])=came m L++[y]:=by simp[came,h]
theorem z9a{n:Nat}{L:List Nat}(hn:L.Nodup)(hb:∀ i∈L,i < n)(ha:∀ i,i < n->i∈L):L.Perm (List.range n):=by
 refine(List.perm_ext_iff_of_nodup hn List.nodup_range).2 fun i=>?_
 rw[List.mem_range];exact⟨hb i,ha i⟩
theorem wZa{m:List ε}{L:List Nat}(hn:L.Nodup)(hb:∀ i∈L,i < m.length)(ha:∀ i,i < m.length->i∈L):(came m L).Perm m:=by
 have h1:=(z9a hn hb ha).filterMap fun i=>m[i]?
 have h2:(List.range m.length).filterMap (fun i=>m[i]?)=m:=by
  apply List.ext_getElem?;intro i;clear h1 hn hb ha;have:(List.range m.length).filterMap (fun i=>m[i]?)=m:=by
   induction m with
   | nil=>rfl
   | cons x r ih=>
    rw[List.length_cons,List.range_succ_eq_map,List.filterMap_cons];simp only[List.getElem?_cons_zero,List.filterMap_map]
    congr 1
  rw[this]
 rw[h2] at h1;exact h1
theorem waa{n:Nat}{L:List Nat}(hn:L.Nodup)(hb:∀ i∈L,i < n):L.length<=n:=by
 have:=List.Nodup.length_le_of_subset hn (l₂:=List.range n) (fun i hi=>List.mem_range.2 (hb i hi));simpa using this
theorem full{n:Nat}{L:List Nat}(hn:L.Nodup)(hb:∀ i∈L,i < n)(hl:n<=L.length):∀ i,i < n->i∈L:=by
 intro i hi;refine Classical.byContradiction fun hni=>?_
 have:=waa (n:=n) (L:=i::L) (List.nodup_cons.2 ⟨hni,hn⟩) (fun j hj=>by
  rcases List.mem_cons.1 hj with rfl | hj
  ·exact hi
  ·exact hb j hj)
 simp at this;omega
theorem loopM{body:σ->M (Step σ ρ)}(m:List ε)(mk:List Nat->τ->σ)(f:τ->ε->M τ)(g:τ->M ρ)(I:List ε->τ->Prop)(Q:ρ->Prop)
  (hb:∀ L t,(∀ i∈L,i < m.length)->body (mk L t)=yb (∀ i∈L,i < m.length) ((nxt m.length L).bind fun o=>match o with
   | none=>(g t).bind fun r=>pure (.done r)
   | some i=>(idx m (Int.ofNat i)).bind fun y=>(f t y).bind fun t'=>pure (.next (mk (L++[i]) t'))))
  (hs:∀ l t y,I l t->l.length < m.length->y∈m->∃ t',f t y=pure t'/\I (l++[y]) t') (he:∀ l t,l.Perm m->I l t->(g t).wp Q) (t0:τ) (h0:I [] t0):(loop body (mk [] t0)).wp Q:=by
 have key:∀ k L t,L.length+k=m.length->L.Nodup->(∀ i∈L,i < m.length)->I (came m L) t->jl body Q (mk L t):=by
  intro k
  induction k with
  | zero=>
   intro L t hk hn hlt hI;refine Xu ?_;rw[hb L t hlt];have hall:∀ i,i < m.length->i∈L:=fun i hi=>full hn hlt (by omega) i hi
   refine⟨hlt,⟨⟨none,hall⟩,fun o ho=>?_⟩⟩
   cases o with
   | none=>
    have:=he _ t (wZa hn hlt hall) hI;exact this
   | some i=>exact absurd (hall i ho.1) ho.2
  | succ k ih=>
   intro L t hk hn hlt hI;refine Xu ?_;rw[hb L t hlt];have hex:∃ i,i < m.length/\i∉L:=by
    refine Classical.byContradiction fun hno=>?_
    have hall:∀ i,i < m.length->i∈L:=fun i hi=>Classical.byContradiction fun h=>hno ⟨i,hi,h⟩
    have:=(z9a hn hlt hall).length_eq;simp at this;omega
   obtain⟨i0,hi0⟩:=hex;refine⟨hlt,⟨⟨some i0,hi0⟩,fun o ho=>?_⟩⟩
   cases o with
   | none=>exact absurd (ho i0 hi0.1) hi0.2
   | some i=>
    have hi:=List.getElem?_eq_getElem ho.1;obtain⟨t',h1,h2⟩:=hs (came m L) t m[i] hI (by have:=List.length_filterMap_le (fun i=>m[i]?) L;unfold came;omega) (List.getElem_mem ho.1);show((idx m (Int.ofNat i)).bind _).wp _;rw[show(Int.ofNat i)=(i:Int) from rfl,zT hi,zA,h1,zA];refine ih (L++[i]) t' (by simp;omega) ?_ ?_ (by rw[wYa hi];exact h2)
    ·rw[List.nodup_append];refine⟨hn,by simp,fun a ha b hb'=>?_⟩;rw[List.mem_singleton.1 hb'];intro e;exact ho.2 (e▸ha)
    ·intro j hj;rcases List.mem_append.1 hj with hj | hj
     ·exact hlt j hj
     ·rw[List.mem_singleton.1 hj];exact ho.1
 exact key m.length [] t0 (by simp) List.nodup_nil (by simp) h0
end M
namespace AL
variable{κ ν:Type}[DecidableEq κ]
theorem get_set(m:List (κ×ν))(k q:κ)(v:ν):get (set m k v) q=if k=q then some v else get m q:=by
 induction m with
 | nil=>simp[set,get]
 | cons x r ih=>
  obtain⟨a,u⟩:=x
  by_cases h:a=k
  ·subst h;simp only[set,if_true,get];split <;> rfl
  ·simp only[set,h,if_false,get,ih]
   by_cases h2:a=q
   ·subst h2;simp[Ne.symm h]
   ·simp[h2]
theorem getZ_set(m:List (κ×ν))(k q:κ)(v z:ν):getZ (set m k v) q z=if k=q then v else getZ m q z:=by
 unfold getZ;rw[get_set];split <;> rfl
theorem keys_set(m:List (κ×ν))(k:κ)(v:ν):(set m k v).map (·.1)=if k∈m.map (·.1) then m.map (·.1) else m.map (·.1)++[k]:=by
 induction m with
 | nil=>simp[set]
 | cons x r ih=>
  obtain⟨a,u⟩:=x
  by_cases h:a=k
  ·subst h;simp[set]
  ·simp only[set,h,if_false,List.map_cons,ih,List.mem_cons,Ne.symm h,false_or]
   split <;> simp
theorem nodup_set{m:List (κ×ν)}(h:(m.map (·.1)).Nodup)(k:κ)(v:ν):((set m k v).map (·.1)).Nodup:=by
 rw[keys_set]
 split
 ·exact h
 ·rename_i hk
  rw[List.nodup_append];refine⟨h,by simp,fun a ha b hb=>?_⟩;rw[List.mem_singleton.1 hb];intro e;exact hk (e▸ha)
theorem get_none{m:List (κ×ν)}{k:κ}:get m k=none↔k∉m.map (·.1):=by
 induction m with
 | nil=>simp[get]
 | cons x r ih=>
  obtain⟨a,u⟩:=x
  by_cases h:a=k
  ·subst h;simp[get]
  ·simp[get,h,ih,Ne.symm h]
theorem get_mem{m:List (κ×ν)}{k:κ}{v:ν}(h:get m k=some v):(k,v)∈m:=by
 induction m with
 | nil=>simp[get] at h
 | cons x r ih=>
  obtain⟨a,u⟩:=x
  by_cases e:a=k
  ·subst e;simp[get] at h;subst h;simp
  ·simp only[get,e,if_false] at h;exact List.mem_cons_of_mem _ (ih h)
theorem mem_get{m:List (κ×ν)}(hn:(m.map (·.1)).Nodup){k:κ}{v:ν}(h:(k,v)∈m):get m k=some v:=by
 induction m with
 | nil=>simp at h
 | cons x r ih=>
  obtain⟨a,u⟩:=x;simp only[List.map_cons,List.nodup_cons] at hn;rcases List.mem_cons.1 h with e | h
  ·cases e;simp[get]
  ·have:a≠k:=fun e=>hn.1 (e▸List.mem_map.2 ⟨(k,v),h,rfl⟩)
   simp only[get,this,if_false];exact ih hn.2 h
theorem len_set(m:List (κ×ν))(k:κ)(v:ν):(set m k v).length<=m.length+1:=by
 induction m with
 | nil=>simp[set]
 | cons x r ih=>
  obtain⟨a,u⟩:=x;unfold set
  split
  ·simp
  ·simpa using ih
end AL
end Go.Ep
namespace Go.Ep.M.H
open Go
section
variable{κ ν:Type}[DecidableEq κ]
theorem Wk{m:List (κ×ν)}(hn:(m.map (·.1)).Nodup)(x:κ)(v:ν)(k:κ×ν):k∈AL.set m x v↔(k∈m/\k.1≠x)\/k=(x,v):=by
 induction m with
 | nil=>simp[AL.set]
 | cons y r ih=>
  obtain⟨q,u⟩:=y;rw[List.map_cons,List.nodup_cons] at hn;unfold AL.set
  split
  ·rename_i e
   subst e;rw[List.mem_cons,List.mem_cons]
   constructor
   ·rintro(h | h)
    ·exact .inr h
    ·exact .inl ⟨.inr h,fun e=>hn.1 (e▸List.mem_map.2 ⟨k,h,rfl⟩)⟩
   ·rintro(⟨h | h,h2⟩ | h)
    ·subst h;exact absurd rfl h2
    ·exact .inr h
    ·exact .inl h
  ·rename_i e
   rw[List.mem_cons,List.mem_cons,ih hn.2]
   constructor
   ·rintro(h | ⟨h,h2⟩ | h)
    ·subst h;exact .inl ⟨.inl rfl,e⟩
    ·exact .inl ⟨.inr h,h2⟩
    ·exact .inr h
   ·rintro(⟨h | h,h2⟩ | h)
    ·exact .inl h
    ·exact .inr (.inl ⟨h,h2⟩)
    ·exact .inr (.inr h)
end
theorem yAa{ε ρ:Type}{body:Int->M (Step Int (Ex Unit ρ))}(l:List ε)(p:ε->Bool)(r:ε->ρ)
  (h1:∀ (i:Nat) (x:ε),l[i]?=some x->i < l.length->body (i:Int)=if p x then pure (.done (.ret (r x))) else pure (.next ((i+1:Nat):Int)))
  (h2:body (l.length:Int)=pure (.done (.brk ()))):loop body 0=pure (match l.find? p with | some x=>.ret (r x) | none=>.brk ()):=by
 have key:∀ k i,i+k=l.length->loop body (i:Int)=pure (match (l.drop i).find? p with | some x=>.ret (r x) | none=>.brk ()):=by
  intro k
  induction k with
  | zero=>
   intro i hi;have:i=l.length:=by omega
   subst this;rw[zV h2,List.drop_length]
   rfl
  | succ k ih=>
   intro i hi;have hlt:i < l.length:=by omega
   have h3:=h1 i l[i] (List.getElem?_eq_getElem hlt) hlt;rw[List.drop_eq_getElem_cons hlt,List.find?_cons]
   by_cases hp:p l[i]=true
   ·rw[if_pos hp] at h3;rw[zV h3,hp]
   ·rw[if_neg hp] at h3;rw[zg h3,ih (i+1) (by omega)];simp only[hp]
 simpa using key l.length 0 (by omega)
def Qb(l:List TMember):Prop:=l.Pairwise fun x y=>x.dev < y.dev
theorem yBa : ∀ {l l':List TMember},Qb l->Qb l'->(∀ d,d∈l↔d∈l')->l=l'
 | [],[],_,_,_=>rfl
 | [],y::r,_,_,h=>by have:=(h y).2 (by simp);simp at this
 | x::r,[],_,_,h=>by have:=(h x).1 (by simp);simp at this
 | x::r,y::t,h1,h2,h=>by
  have hx:=(h x).1 (by simp);have hy:=(h y).2 (by simp);have e:x=y:=by
   rcases List.mem_cons.1 hx with e | hx
   ·exact e
   ·rcases List.mem_cons.1 hy with e | hy
    ·exact e.symm
    ·have a1:=(List.pairwise_cons.1 h2).1 x hx;have a2:=(List.pairwise_cons.1 h1).1 y hy;omega
  subst e
  congr 1
  refine yBa (List.pairwise_cons.1 h1).2 (List.pairwise_cons.1 h2).2 fun d=>?_
  have h3:=h d;simp only[List.mem_cons] at h3
  constructor
  ·intro hd;rcases h3.1 (.inr hd) with e | h4
   ·have:=(List.pairwise_cons.1 h1).1 d hd;rw[e] at this;omega
   ·exact h4
  ·intro hd;rcases h3.2 (.inr hd) with e | h4
   ·have:=(List.pairwise_cons.1 h2).1 d hd;rw[e] at this;omega
   ·exact h4
theorem qe{l:List TMember}(h:Qb l):(l.map (·.dev)).Nodup:=by
 unfold List.Nodup;rw[List.pairwise_map];exact h.imp fun {a b} h=>by omega
theorem srtM_of{s:List TMember}(hn:(s.map (·.dev)).Nodup)(h:s.Pairwise fun x y=>xV y x=false):Qb s:=by
 unfold List.Nodup at hn;rw[List.pairwise_map] at hn;refine(hn.and h).imp fun {a b} ⟨h1,h2⟩=>?_
 unfold xV at h2;have:=of_decide_eq_false h2;omega
theorem srt_wpM{l:List TMember}{Q:List TMember->Prop}(h:∀ s,s.Perm l->(s.Pairwise fun x y=>xV y x=false)->Q s):(srt xV l).wp Q:=by
 refine⟨⟨l.mergeSort (fun x y=>!xV y x),List.mergeSort_perm _ _,?_⟩,fun s ⟨h1,h2⟩=>h s h1 h2⟩;refine(List.pairwise_mergeSort (fun a b c h1 h2=>?_) (fun a b=>?_) l).imp fun {x y} h=>by simpa using h
 ·simp[xV] at h1 h2 ⊢;omega
 ·simp[xV];omega
def ent(e:TMember):Int×TMember:=(e.dev,e)
theorem zHa{a b:TMember}(h:ent a=ent b):a=b:=(Prod.mk.inj h).2
theorem UM{l:List TMember}{k:Int×TMember}:k∈l.map ent↔k.2∈l/\k.1=k.2.dev:=by
 rw[List.mem_map]
 constructor
 ·rintro⟨e,h,rfl⟩;exact⟨h,rfl⟩
 ·rintro⟨h1,h2⟩;exact⟨k.2,h1,by unfold ent;rw[<- h2]⟩
def Holds(m:List (Int×TMember))(l:List TMember):Prop:=m.Perm (l.map ent)
theorem Holds.keys{m:List (Int×TMember)}{l:List TMember}(h:Holds m l)(hs:Qb l):(m.map (·.1)).Nodup:=by
 have h1:=h.map (·.1);rw[List.map_map] at h1;exact h1.nodup_iff.2 (qe hs)
theorem Holds.mem{m:List (Int×TMember)}{l:List TMember}(h:Holds m l){k:Int×TMember}:k∈m↔k.2∈l/\k.1=k.2.dev:=by rw[h.mem_iff,UM]
theorem Holds.len{m:List (Int×TMember)}{l:List TMember}(h:Holds m l):m.length=l.length:=by rw[h.length_eq,List.length_map]
theorem UN{l:List TMember}(h:Qb l):(l.map ent).Nodup:=by
 unfold List.Nodup;rw[List.pairwise_map];exact h.imp fun {a b} h e=>by rw[zHa e] at h;omega
theorem JL{m:List (Int×TMember)}{l:List TMember}(hn:(m.map (·.1)).Nodup)(hs:Qb l)(h:∀ k,k∈m↔k.2∈l/\k.1=k.2.dev):Holds m l:=by
 have hm:m.Nodup:=by
  unfold List.Nodup at hn ⊢;rw[List.pairwise_map] at hn;exact hn.imp fun {a b} h e=>h (by rw[e])
 exact(List.perm_ext_iff_of_nodup hm (UN hs)).2 fun k=>by rw[h,UM]
def atD(d:Int)(x:TMember):Bool:=decide (x.dev=d)
theorem Holds.get{m:List (Int×TMember)}{l:List TMember}(h:Holds m l)(hs:Qb l)(d:Int):AL.get m d=l.find? (atD d):=by
 cases hf:l.find? (atD d) with
 | some x=>
  have h1:=List.mem_of_find?_eq_some hf;have h2:x.dev=d:=of_decide_eq_true (p:=x.dev=d) (List.find?_some (p:=atD d) hf);exact AL.mem_get (h.keys hs) (h.mem.2 ⟨h1,h2.symm⟩)
 | none=>
  refine AL.get_none.2 fun hk=>?_
  obtain⟨k,hk1,hk2⟩:=List.mem_map.1 hk;obtain⟨h1,h2⟩:=h.mem.1 hk1;have:=List.find?_eq_none.1 hf k.2 h1;exact this (decide_eq_true (by rw[<- h2,hk2]))
theorem qf{l:List TMember}(hs:Qb l){a:TMember}(h:∀ x∈l,x.dev < a.dev):Qb (l++[a]):=
 List.pairwise_append.2 ⟨hs,List.pairwise_singleton _ _,fun x hx y hy=>by rw[List.mem_singleton.1 hy];exact h x hx⟩
theorem Holds.snoc{m:List (Int×TMember)}{l:List TMember}(h:Holds m l)(hs:Qb l){a:TMember}(hl:∀ x∈l,x.dev < a.dev):Holds (AL.set m a.dev a) (l++[a]):=
 JL (AL.nodup_set (h.keys hs) _ _) (qf hs hl) fun k=>by
  rw[Wk (h.keys hs),h.mem,List.mem_append,List.mem_singleton]
  constructor
  ·rintro(⟨⟨h1,h2⟩,h3⟩ | h1)
   ·exact⟨.inl h1,h2⟩
   ·subst h1;exact⟨.inr rfl,rfl⟩
  ·rintro⟨h1 | h1,h2⟩
   ·have:=hl k.2 h1;exact .inl ⟨⟨h1,h2⟩,by omega⟩
   ·exact .inr (by rw[<- h1,<- h2])
theorem none_eq(e la:Int)(A:A16)(nl:Bool)(m:List (Int×TMember)):zr e la A nl m=pure (decide (e=0)):=rfl
theorem JM{e:Int}(he:1<=e)(la:Int)(A:A16)(nl:Bool)(m:List (Int×TMember)):zr e la A nl m=pure false:=by
 rw[none_eq,decide_eq_false (by omega)]
theorem Members_eq{e la:Int}{A:A16}{nl:Bool}{m:List (Int×TMember)}{l:List TMember}(he:1<=e)(hm:Holds m l)(hs:Qb l)(hl:l.length<=1000000000):yE e la A nl m=pure l:=by
 unfold yE;rw[JM he,zB,zA];refine uU ?_;show((loop _ _).bind _).wp _;refine M.loopM (body:=xv m) m (fun L (t:List TMember)=>(L,t)) (fun t e=>yb ((t.length+1)*16<=140737488355328) (pure (t++[e.2]))) (fun t=>pure t)
  (fun l t=>t=l.map (·.2)) _ (fun L t hL=>?_) (fun l t y ht hlen hy=>?_) (fun q t hq ht=>?_) [] rfl
 ·show yb _ ((nxt _ _).bind _)=yb _ ((nxt _ _).bind _);refine congrArg (fun k=>yb _ ((nxt _ _).bind k)) (funext fun o=>?_)
  cases o with
  | none=>rfl
  | some i=>rfl
 ·have:=hm.len;subst ht;exact⟨_,zF (by rw[List.length_map];omega) _,by simp⟩
 ·subst ht;have hp:(q.map (·.2)).Perm l:=by
   have:=(hq.trans hm).map (·.2);rw[List.map_map] at this;simpa[Function.comp_def,ent] using this
  show(yb _ _).wp _;rw[zF (by rw[hp.length_eq];omega)];refine srt_wpM fun s h1 h2=>?_
  show s=l;have h3:=h1.trans hp;exact yBa (srtM_of ((h3.map (·.dev)).nodup_iff.2 (qe hs)) h2) hs fun d=>h3.mem_iff
def zM : TMember:=⟨0,0,0⟩
def fnd(p:TMember->Bool)(l:List TMember):TMember×Bool:=match l.find? p with | some x=>(x,true) | none=>(zM,false)
def atS(s:Int)(x:TMember):Bool:=decide (x.slot=s)
theorem fnd_none{p:TMember->Bool}{l:List TMember}(h:(fnd p l).2=false):(fnd p l).1=zM/\∀ x∈l,p x=false:=by
 unfold fnd at h ⊢
 cases hf:l.find? p with
 | some x=>rw[hf] at h;cases h
 | none=>exact⟨rfl,fun x hx=>by simpa using List.find?_eq_none.1 hf x hx⟩
theorem wba{body:Int->M (Step Int (Ex Unit (TMember×Bool)))}(l:List TMember)(p:TMember->Bool)(hl:l.length<=1000000000)
  (hb:∀ i:Int,body i=cond (decide (i < (l.length:Int))) ((idx l i).bind fun x=>cond (p x) (pure (.done (.ret (x,true)))) (pure (.next (IntKind.i64.wrap (i+1))))) (pure (.done (.brk ())))) :
  (loop body 0).bind (exk fun _=>pure (zM,false))=pure (fnd p l):=by
 rw[yAa (body:=body) l p (fun x=>(x,true)) (fun i x hx hi=>?_) ?_]
 ·rw[zA];unfold fnd
  cases l.find? p <;> rfl
 ·rw[hb,decide_eq_false (by omega),cond_false]
 ·rw[hb,decide_eq_true (by omega),cond_true,zT hx,zA,yt (by omega)]
  cases p x <;> rfl
theorem Of_eq{e la:Int}{A:A16}{nl:Bool}{m:List (Int×TMember)}{l:List TMember}(he:1<=e)(hm:Holds m l)(hs:Qb l)(hl:l.length<=1000000000)(s:Int):yk s e la A nl m=pure (fnd (atS s) l):=by
 unfold yk;rw[Members_eq he hm hs hl,zB,zA];exact wba l (atS s) hl fun i=>rfl
theorem has_eq{m:List (Int×TMember)}{l:List TMember}(hm:Holds m l)(hs:Qb l)(d:Int):AL.has m d=(fnd (atD d) l).2:=by
 unfold AL.has fnd;rw[hm.get hs]
 cases l.find? (atD d) <;> rfl
structure Rep(n:Nat)(x:R26Roster)(m:List (Int×TMember)):Prop where
 e1:1<=x.epoch
 e2:x.epoch<=1000000000000000000
 l1:0<=x.last
 l2:x.last<=65535
 hm:Holds m x.l
 hs:Qb x.l
 hb:∀ a∈x.l,1<=a.dev/\a.dev<=x.last
 len:x.l.length<=n
 n9:n<=1000
theorem Epoch_eq{n:Nat}{x:R26Roster}{m:List (Int×TMember)}(h:Rep n x m):ym x.epoch x.last x.tries false m=pure x.epoch:=by
 unfold ym;rw[JM h.e1,zB,zA,cond_false]
theorem Last_eq{n:Nat}{x:R26Roster}{m:List (Int×TMember)}(h:Rep n x m):yu x.epoch x.last x.tries false m=pure x.last:=by
 unfold yu;rw[JM h.e1,zB,zA,cond_false]
theorem WN(l:List Int)(h:l.length<=1000000000):yA l=pure l:=by
 unfold yA;refine uU ⟨⟨false,fun h=>by cases h⟩,fun b hb=>?_⟩
 cases b with
 | true=>rw[hb rfl];rfl
 | false=>
  show(yb _ _).wp _;rw[zF (by simp;omega),List.nil_append]
  rfl
theorem Tries_eq{n:Nat}{x:R26Roster}{m:List (Int×TMember)}(h:Rep n x m):yn x.epoch x.last x.tries false m=pure (AR.l x.tries):=by
 unfold yn;rw[JM h.e1,zB,zA,cond_false,WN _ (by rw[AR.l_len];omega),zB,zA]
theorem Same_eq(l:List TMember)(hl:l.length<=1000000000):VX l l=pure true:=by
 unfold VX;rw[decide_eq_true rfl,Bool.not_true,cond_false];rw[yAa (body:=UD l l) l (fun _=>false) (fun _=>false) (fun i x hx hi=>?_) ?_]
 ·have:l.find? (fun _=>false)=none:=List.find?_eq_none.2 (by simp);rw[this];rfl
 ·show cond (decide ((l.length:Int) < (l.length:Int))) _ _=_;rw[decide_eq_false (by omega)];rfl
 ·show cond (decide ((i:Int) < (l.length:Int))) _ _=_;rw[decide_eq_true (by omega),cond_true,zT hx,zA,zA];simp[yt (show i < 9223372036854775807 by omega)]
def z16 : A16:=(0,0,0,0,0,0,0,0,0,0,0,0,0,0,0,0)
def newR(e la:Int)(A:A16):R26Roster:=⟨e,la,[],A⟩
theorem rep_new{e la:Int}{A:A16}(h1:1<=e)(h2:e<=1000000000000000000)(h3:0<=la)(h4:la<=65535):Rep 0 (newR e la A) []:=
 ⟨h1,h2,h3,h4,List.Perm.refl _,List.Pairwise.nil,fun a (ha:a∈[])=>absurd ha List.not_mem_nil,Nat.le_refl _,by omega⟩
theorem loopB{ε σ β ρ τ:Type}{body:σ->M (Step σ (Ex β ρ))}(l:List ε)(mk:Nat->τ->σ)(g:τ->β)(bad:Nat->ε->Bool)(r:ρ)(I:Nat->τ->Prop)
  (h1:∀ (i:Nat) (x:ε) (t:τ),l[i]?=some x->i < l.length->I i t->(bad i x=true->body (mk i t)=pure (.done (.ret r)))/\(bad i x=false->∃ t',body (mk i t)=pure (.next (mk (i+1) t'))/\I (i+1) t'))
  (h2:∀ t,I l.length t->body (mk l.length t)=pure (.done (.brk (g t)))) (t0:τ) (h0:I 0 t0) :
  (l.zipIdx.any (fun y=>bad y.2 y.1)=true/\loop body (mk 0 t0)=pure (.ret r))\/(l.zipIdx.any (fun y=>bad y.2 y.1)=false/\∃ t,loop body (mk 0 t0)=pure (.brk (g t))/\I l.length t):=by
 have key:∀ k i t,i+k=l.length->I i t->(((l.drop i).zipIdx i).any (fun y=>bad y.2 y.1)=true/\loop body (mk i t)=pure (.ret r))\/(((l.drop i).zipIdx i).any (fun y=>bad y.2 y.1)=false/\∃ t',loop body (mk i t)=pure (.brk (g t'))/\I l.length t'):=by
  intro k
  induction k with
  | zero=>
   intro i t hi hI;have:i=l.length:=by omega
   subst this;rw[List.drop_length];exact .inr ⟨rfl,t,zV (h2 t hI),hI⟩
  | succ k ih=>
   intro i t hi hI;have hlt:i < l.length:=by omega
   obtain⟨h3,h4⟩:=h1 i l[i] t (List.getElem?_eq_getElem hlt) hlt hI;rw[List.drop_eq_getElem_cons hlt,List.zipIdx_cons,List.any_cons]
   cases hp:bad i l[i] with
   | true=>exact .inl ⟨rfl,zV (h3 hp)⟩
   | false=>
    obtain⟨t',h5,h6⟩:=h4 hp;rw[zg h5,Bool.false_or];exact ih (i+1) t' (by omega) h6
 simpa using key l.length 0 t0 (by omega) h0
theorem over_l{A:A16}{L:List Int}(h:L.length=16):AR.l (AR.over A L)=L:=by
 rw[AR.l_over,List.take_of_length_le (by omega),h,List.drop_eq_nil_of_le (by rw[AR.l_len];omega),List.append_nil]
theorem over_get{A:A16}{L:List Int}(h:L.length=16)(i:Nat):AR.get (AR.over A L) i=L.getD i 0:=by
 unfold AR.get;rw[over_l h]
def bad1(la:Int)(l:List TMember)(i:Nat)(x:TMember):Bool:=decide (x.dev=0)||(decide (la < x.dev)||(decide (0 < i)&&decide (x.dev<=(l.getD (i - 1) zM).dev)))
def bad2(tr:List Int)(x:TMember):Bool:=decide (16<=x.slot)||(decide (x.try_=0)||!decide (tr.getD x.slot.toNat 0=x.try_))
def badF(la:Int)(l:List TMember)(tr:List Int)(i:Nat)(x:TMember):Bool:=bad1 la l i x||(bad2 tr x||(fnd (atS x.slot) (l.take i)).2)
def head0(e:Int)(tr:List Int):Bool:=decide (e=0)||(decide (281474976710655 < e)||!decide ((tr.length:Int)=16))
def fromB(e la:Int)(l:List TMember)(tr:List Int):Bool:=!(head0 e tr)&&!(l.zipIdx.any fun y=>badF la l tr y.2 y.1)
theorem cond_tt(a b c:Bool):(cond a (pure true) (cond b (pure true) (pure c)):M Bool)=pure (a||(b||c)):=by cases a <;> cases b <;> rfl
theorem vh{ε:Type}{l:List ε}{i:Nat}{x:ε}(h:l[i]?=some x):l.take (i+1)=l.take i++[x]:=by
 obtain⟨hlt,rfl⟩:=List.getElem?_eq_some_iff.1 h;exact List.take_append_getElem hlt▸rfl
theorem b1_eq{la:Int}{l:List TMember}{i:Nat}{x:TMember}(hi:i < l.length)(hl:l.length<=1000){c:M Bool} :
  (cond (decide (x.dev=0)) (pure true) (cond (decide (la < x.dev)) (pure true) (cond (decide ((0:Int) < (i:Int))) ((idx l (IntKind.i64.wrap ((i:Int) - 1))).bind fun x61=>cond (decide (x.dev<=x61.dev)) (pure true) c) c)):M Bool)=cond (bad1 la l i x) (pure true) c:=by
 unfold bad1
 cases decide (x.dev=0) with
 | true=>rfl
 | false=>
  cases decide (la < x.dev) with
  | true=>rfl
  | false=>
   rw[cond_false,cond_false,Bool.false_or,Bool.false_or]
   by_cases h0:0 < i
   ·have hw:IntKind.i64.wrap ((i:Int) - 1)=((i - 1:Nat):Int):=by rw[XZ (by omega) (by omega)];omega
    have hg:l[i - 1]?=some (l.getD (i - 1) zM):=by
     rw[List.getD_eq_getElem?_getD,List.getElem?_eq_getElem (by omega)];rfl
    rw[decide_eq_true (by omega),decide_eq_true h0,cond_true,hw,zT hg,zA,Bool.true_and]
   ·rw[decide_eq_false (by omega),decide_eq_false h0,cond_false,Bool.false_and,cond_false]
theorem From_eq{e la:Int}{l:List TMember}{tr:List Int}(he:0<=e)(h0:0<=la)(h1:la<=65535)(hl:l.length<=900)(hd:∀ x∈l,0<=x.dev/\0<=x.slot) :
  (fromB e la l tr=false/\wk e la l tr=pure (.inl ()))\/(fromB e la l tr=true/\tr.length=16/\∃ m,wk e la l tr=pure (.inr (e,la,AR.over z16 tr,false,m))/\Rep l.length ⟨e,la,l,AR.over z16 tr⟩ m):=by
 unfold wk fromB head0;rw[cond_tt,zA]
 cases hh:decide (e=0)||(decide (281474976710655 < e)||!decide ((tr.length:Int)=16)) with
 | true=>exact .inl ⟨rfl,rfl⟩
 | false=>
  rw[Bool.or_eq_false_iff,Bool.or_eq_false_iff,Bool.not_eq_false'] at hh;have h16:tr.length=16:=by
   have:=of_decide_eq_true hh.2.2;omega
  have he0:=of_decide_eq_false hh.1;have he1:=of_decide_eq_false hh.2.1;rw[cond_false,Bool.not_false,Bool.true_and,show vb=pure (1,0,z16,false,[]) from rfl,zB,zA];have key:=loopB (body:=vl l la (1,0,z16,false,[]) tr e) l (fun i (m:List (Int×TMember))=>((i:Int),m)) (fun m=>m) (badF la l tr) (.inl ())
   (fun i m=>Holds m (l.take i)/\Qb (l.take i)/\∀ a∈l.take i,1<=a.dev/\a.dev<=la) (fun i x m hx hi hI=>?_) (fun m _=>?_) [] ⟨List.Perm.refl _,by rw[List.take_zero];exact List.Pairwise.nil,fun a ha=>by rw[List.take_zero] at ha;cases ha⟩
  ·rcases key with⟨k1,k2⟩ | ⟨k1,m,k2,k3,k4,k5⟩
   ·refine .inl ⟨by rw[k1];rfl,?_⟩;rw[show((0:Nat):Int)=0 from rfl] at k2;show M.bind (loop _ (0,[])) _=_;rw[k2];rfl
   ·rw[List.take_length] at k3 k4 k5;refine .inr ⟨by rw[k1];rfl,h16,m,?_,by show 1<=e;omega,by show e<=_;omega,h0,h1,k3,k4,k5,Nat.le_refl _,by show l.length<=1000;omega⟩;rw[show((0:Nat):Int)=0 from rfl] at k2;show M.bind (loop _ (0,[])) _=_;rw[k2];rfl
  ·obtain⟨hm,hs,hb⟩:=hI;have hx2:=hd x (List.mem_of_getElem? hx);have hti:(l.take i).length=i:=by rw[List.length_take];omega
   have hbody:vl l la (1,0,z16,false,[]) tr e ((i:Int),m)=cond (badF la l tr i x) (pure (.done (.ret (.inl ())))) (pure (.next (((i+1:Nat):Int),AL.set m x.dev x))):=by
    show cond (decide ((i:Int) < (l.length:Int))) _ _=_;rw[decide_eq_true (by omega),cond_true,zT hx,zA];have hb1:=b1_eq (la:=la) (x:=x) hi (by omega) (c:=pure false);have hb2:(cond (decide (16<=x.slot)) (pure true) (cond (decide (x.try_=0)) (pure true) (yb ((0:Int)<=x.slot/\x.slot < ((16:Nat):Int)) (pure (!decide (AR.get (AR.over z16 tr) x.slot.toNat=x.try_))))):M Bool)=pure (bad2 tr x):=by
     unfold bad2
     cases hc:decide (16<=x.slot) with
     | true=>rfl
     | false=>
      have:=of_decide_eq_false hc;rw[cond_false,zF ⟨hx2.2,by omega⟩,over_get h16,qE,Bool.false_or]
    have hb1':(cond (decide (x.dev=0)) (pure true) (cond (decide (la < x.dev)) (pure true) (cond (decide ((0:Int) < (i:Int))) ((idx l (IntKind.i64.wrap ((i:Int) - 1))).bind fun x61=>pure (decide (x.dev<=x61.dev))) (pure false))):M Bool)=pure (bad1 la l i x):=by
     rw[show(cond (bad1 la l i x) (pure true) (pure false):M Bool)=pure (bad1 la l i x) by cases bad1 la l i x <;> rfl] at hb1;rw[<- hb1]
     congr 3
     refine congrArg (fun z=>M.bind _ z) (funext fun y=>?_)
     cases decide (x.dev<=y.dev) <;> rfl
    show M.bind (cond (decide (x.dev=0)) _ _) _=_;rw[hb1',zA];unfold badF
    cases bad1 la l i x with
    | true=>rfl
    | false=>
     show M.bind (cond (decide (16<=x.slot)) _ _) _=_;rw[hb2,zA]
     cases bad2 tr x with
     | true=>rfl
     | false=>
      show M.bind (det (yk _ _ _ _ _ _)) _=_;rw[Of_eq (by omega) hm hs (by rw[hti];omega),zB,zA];show cond (fnd (atS x.slot) (l.take i)).2 _ _=_;rw[zF rfl,yt (by omega)]
      rfl
   rw[hbody]
   constructor
   ·intro h;rw[h];rfl
   ·intro h;rw[h];refine⟨AL.set m x.dev x,rfl,?_⟩;unfold badF bad1 at h;simp only[Bool.or_eq_false_iff] at h;have d0:=of_decide_eq_false h.1.1;have d1:=of_decide_eq_false h.1.2.1;have d2:=h.1.2.2;have hlast:∀ y∈l.take i,y.dev < x.dev:=fun y hy=>by
     have hi0:0 < i:=by
      rcases Nat.eq_zero_or_pos i with h | h
      ·subst h;rw[List.take_zero] at hy;cases hy
      ·exact h
     rw[decide_eq_true hi0,Bool.true_and] at d2;have d3:=of_decide_eq_false d2;have hg:l[i - 1]?=some (l.getD (i - 1) zM):=by
      rw[List.getD_eq_getElem?_getD,List.getElem?_eq_getElem (by omega)];rfl
     have e1:=vh hg;rw[Nat.sub_add_cancel hi0] at e1;rw[e1] at hy hs;rcases List.mem_append.1 hy with hy | hy
     ·have:=(List.pairwise_append.1 hs).2.2 y hy _ (List.mem_singleton.2 rfl);omega
     ·rw[List.mem_singleton.1 hy];omega
    rw[vh hx];exact⟨hm.snoc hs hlast,qf hs hlast,fun a ha=>by
     rcases List.mem_append.1 ha with ha | ha
     ·exact hb a ha
     ·rw[List.mem_singleton.1 ha];omega⟩
  ·show cond (decide ((l.length:Int) < (l.length:Int))) _ _=_;rw[decide_eq_false (by omega)];rfl
structure Gone(g:List Bool)(x:R26Roster):Prop where
 len:g.length=65536
 on:∀ d:Nat,g[d]?=some true->(d:Int)<=x.last/\∀ a∈x.l,a.dev≠d
theorem Gone.sub{g:List Bool}{x x':R26Roster}(h:Gone g x)(h1:x.last<=x'.last)(h2:∀ a∈x'.l,a∈x.l\/x.last < a.dev):Gone g x':=
 ⟨h.len,fun d hd=>by
  obtain⟨h3,h4⟩:=h.on d hd;refine⟨by omega,fun a ha=>?_⟩;rcases h2 a ha with h5 | h5
  ·exact h4 a h5
  ·omega⟩
theorem Gone.put{g:List Bool}{x':R26Roster}(h:Gone g x'){d:Int}(h0:0<=d)(h1:d<=x'.last)(h2:∀ a∈x'.l,a.dev≠d):Gone (g.set d.toNat true) x':=
 ⟨by rw[List.length_set];exact h.len,fun q hq=>by
  rw[List.getElem?_set] at hq
  split at hq
  ·rename_i e;subst e
   refine⟨by omega,fun a ha e=>h2 a ha (by omega)⟩
  ·exact h.on q hq⟩
end Go.Ep.M.H
namespace Go.Ep.M.V
open Go
def xB(d:DT):Bool:=decide (1<=d.dev)&&(decide (1<=d.n)&&decide (d.n<=281474976710655))
theorem WO{d:DT}:xB d=true↔1<=d.dev/\1<=d.n/\d.n<=281474976710655:=by simp[xB]
theorem un(d:DT):ZB d=pure (xB d):=by
 unfold ZB;rw[xm,xm,zA];refine congrArg pure ?_;rw[Bool.eq_iff_iff,WO];simp only[Bool.and_eq_true,decide_eq_true_eq];omega
theorem zIa(a b:List DT)(h:a.length<=1000000000000):VY a b=pure (decide (a=b)):=by
 unfold VY
 by_cases hl:(a.length:Int)=b.length
 ·simp only[hl,decide_true,Bool.not_true,cond_false];have:=vL (body:=Zo a b) a (fun i=>(i:Int)) (fun i x=>decide (b[i]?=some x)) (.brk ()) (.ret false) (fun i x hx hi=>by
   have hb:i < b.length:=by omega
   unfold Zo;rw[zT hx,zT (List.getElem?_eq_getElem hb),yt (by omega)];simp only[zA,List.getElem?_eq_getElem hb,Option.some.injEq];have:decide ((i:Int) < (a.length:Int))=true:=by simpa using hi
   rw[this,cond_true]
   by_cases he:b[i]=x
   ·subst he;simp
   ·rw[if_neg (by simpa using he)];have:(decide (x.dev=b[i].dev)&&decide (x.n=b[i].n))=false:=by
     rw[Bool.eq_false_iff];intro hc;simp at hc;apply he
     cases x;cases hh:b[i];simp_all
    rw[this];rfl) (by
   unfold Zo;simp)
  rw[show(0:Int)=((0:Nat):Int) from rfl,this]
  by_cases he:a=b
  ·subst he;rw[if_pos]
   ·simp[zA,uV]
   ·rw[List.all_eq_true];intro ⟨x,i⟩ hx;rw[List.mk_mem_zipIdx_iff_getElem?] at hx;simpa using hx
  ·rw[if_neg]
   ·simp[he,zA,Vu]
   ·intro hall;rw[List.all_eq_true] at hall;apply he;apply List.ext_getElem (by omega);intro i h1 h2;have:=hall (a[i],i) (by rw[List.mk_mem_zipIdx_iff_getElem?];exact List.getElem?_eq_getElem h1);simp[h2] at this;exact this.symm
 ·have hne:a≠b:=fun e=>hl (by rw[e])
  simp[hl,hne]
def ofV : List DT->Int->Int
 | [],_=>0
 | d::r,dev=>if d.dev=dev/\xB d=true then max d.n (ofV r dev) else ofV r dev
theorem wca(v:List DT)(dev:Int):0<=ofV v dev/\ofV v dev<=281474976710655:=by
 induction v with
 | nil=>simp[ofV]
 | cons d r ih=>
  simp only[ofV]
  split
  ·rename_i h;have:=WO.1 h.2;omega
  ·exact ih
theorem ofV_pos{v:List DT}{dev:Int}:0 < ofV v dev↔∃ d∈v,d.dev=dev/\xB d=true:=by
 induction v with
 | nil=>simp[ofV]
 | cons d r ih=>
  simp only[ofV,List.mem_cons,exists_eq_or_imp]
  split
  ·rename_i h
   have:=WO.1 h.2
   constructor
   ·intro _;exact .inl h
   ·intro _;omega
  ·rename_i h
   rw[ih]
   constructor
   ·exact .inr
   ·rintro(hh | hh)
    ·exact absurd hh h
    ·exact hh
def xJa : List Int->Int->List Int
 | [],k=>[k]
 | a::r,k=>if k < a then k::a::r else if k=a then a::r else a::xJa r k
theorem JN{l:List Int}{k q:Int}:q∈xJa l k↔q=k\/q∈l:=by
 induction l with
 | nil=>simp[xJa]
 | cons a r ih=>
  unfold xJa
  split
  ·simp
  ·split
   ·rename_i h;subst h;simp
   ·simp only[List.mem_cons,ih];constructor
    ·rintro(h | h | h) <;> simp[h]
    ·rintro(h | h | h) <;> simp[h]
theorem UO{l:List Int}(h:l.Pairwise (· < ·))(k:Int):(xJa l k).Pairwise (· < ·):=by
 induction l with
 | nil=>simp[xJa]
 | cons a r ih=>
  obtain⟨h1,h2⟩:=List.pairwise_cons.1 h;unfold xJa
  split
  ·rename_i hk
   refine List.pairwise_cons.2 ⟨fun x hx=>?_,h⟩;rcases List.mem_cons.1 hx with rfl | hx
   ·exact hk
   ·have:=h1 x hx;omega
  ·split
   ·exact h
   ·refine List.pairwise_cons.2 ⟨fun x hx=>?_,ih h2⟩;rcases JN.1 hx with rfl | hx
    ·omega
    ·exact h1 x hx
theorem yCa(l : List Int)(k : Int) : (xJa l k).length<=l.length+1 := by
  induction l with
  | nil => simp[xJa]
  | cons a r ih => unfold xJa; split <;> try split
                   all_goals simp_all
def Zt(l:List Int)(d:DT):List Int:=if xB d then xJa l d.dev else l
def devsL(v:List DT):List Int:=v.foldl Zt []
theorem WP(v:List DT):∀ l:List Int,l.Pairwise (· < ·)->(v.foldl Zt l).Pairwise (· < ·)/\(∀ k,k∈v.foldl Zt l↔k∈l\/∃ d∈v,d.dev=k/\xB d=true)/\(v.foldl Zt l).length<=l.length+v.length:=by
 induction v with
 | nil=>intro l h;simp[h]
 | cons d r ih=>
  intro l h;simp only[List.foldl_cons];unfold Zt
  split
  ·rename_i hg
   obtain⟨h1,h2,h3⟩:=ih _ (UO h d.dev);refine⟨h1,fun k=>?_,?_⟩
   ·have:=h2 k;unfold Zt at this;rw[this,JN]
    constructor
    ·rintro((rfl | h) | ⟨e,he,h⟩)
     ·exact .inr ⟨d,by simp,rfl,hg⟩
     ·exact .inl h
     ·exact .inr ⟨e,by simp[he],h⟩
    ·rintro(h | ⟨e,he,h⟩)
     ·exact .inl (.inr h)
     ·rcases List.mem_cons.1 he with rfl | he
      ·exact .inl (.inl h.1.symm)
      ·exact .inr ⟨e,he,h⟩
   ·have:=yCa l d.dev;simp only[List.length_cons];unfold Zt at h3;omega
  ·rename_i hg
   obtain⟨h1,h2,h3⟩:=ih _ h;refine⟨h1,fun k=>?_,?_⟩
   ·have:=h2 k;unfold Zt at this;rw[this]
    constructor
    ·rintro(h | ⟨e,he,h⟩)
     ·exact .inl h
     ·exact .inr ⟨e,by simp[he],h⟩
    ·rintro(h | ⟨e,he,h⟩)
     ·exact .inl h
     ·rcases List.mem_cons.1 he with rfl | he
      ·exact absurd h.2 hg
      ·exact .inr ⟨e,he,h⟩
   ·simp only[List.length_cons];unfold Zt at h3;omega
theorem vV{v:List DT}{k:Int}:k∈devsL v↔0 < ofV v k:=by rw[ofV_pos];simpa[devsL] using (WP v [] List.Pairwise.nil).2.1 k
def uI(m:List (Int×Int))(d:DT):List (Int×Int):=if xB d then AL.set m d.dev (max (AL.getZ m d.dev 0) d.n) else m
def Yi(v:List DT):List (Int×Int):=v.foldl uI []
theorem JO(v:List DT):∀ m:List (Int×Int),(m.map (·.1)).Nodup->((v.foldl uI m).map (·.1)).Nodup/\((∀ k,0<=AL.getZ m k 0)->∀ k,AL.getZ (v.foldl uI m) k 0=max (AL.getZ m k 0) (ofV v k))/\(v.foldl uI m).length<=m.length+v.length/\(∀ k,k∈(v.foldl uI m).map (·.1)->k∈m.map (·.1)\/0 < ofV v k):=by
 induction v with
 | nil=>
  intro m h;refine⟨h,fun h0 k=>?_,by simp,fun k hk=>.inl hk⟩;have:=h0 k;simp only[List.foldl_nil,ofV];omega
 | cons d r ih=>
  intro m h;simp only[List.foldl_cons]
  by_cases hg:xB d=true
  ·have hd:=WO.1 hg;have e:uI m d=AL.set m d.dev (max (AL.getZ m d.dev 0) d.n):=by simp[uI,hg]
   rw[e];obtain⟨h1,h2,h3,h4⟩:=ih _ (AL.nodup_set h d.dev (max (AL.getZ m d.dev 0) d.n));refine⟨h1,fun h0 k=>?_,?_,fun k hk=>?_⟩
   ·rw[h2 (fun q=>by rw[AL.getZ_set];have:=h0 q;have:=h0 d.dev;split <;> omega),AL.getZ_set];simp only[ofV]
    by_cases hk:d.dev=k
    ·subst hk;simp only[if_true,hg,and_self];omega
    ·simp[hk]
   ·have:=AL.len_set m d.dev (max (AL.getZ m d.dev 0) d.n);simp only[List.length_cons];omega
   ·simp only[ofV];rcases h4 k hk with h5 | h5
    ·rw[AL.keys_set] at h5
     split at h5
     ·exact .inl h5
     ·rcases List.mem_append.1 h5 with h5 | h5
      ·exact .inl h5
      ·right
       rw[List.mem_singleton.1 h5,if_pos ⟨rfl,hg⟩];omega
    ·right;split <;> omega
  ·have e:uI m d=m:=by simp[uI,hg]
   rw[e];obtain⟨h1,h2,h3,h4⟩:=ih m h;have e2:∀ k,ofV (d::r) k=ofV r k:=fun k=>by simp only[ofV];rw[if_neg (fun hh=>hg hh.2)]
   exact⟨h1,fun h0 k=>by rw[h2 h0,e2],by simp only[List.length_cons];omega,fun k hk=>by rw[e2];exact h4 k hk⟩
theorem XJ(v:List DT):((Yi v).map (·.1)).Nodup:=(JO v [] (by simp)).1
theorem WQ(v:List DT)(k:Int):AL.getZ (Yi v) k 0=ofV v k:=by
 have:=(JO v [] (by simp)).2.1 (fun _=>Int.le_refl _) k;have h2:=wca v k;rw[Yi,this];show max 0 (ofV v k)=_;omega
theorem JP{v:List DT}{k n:Int}(h:(k,n)∈Yi v):n=ofV v k/\0 < n:=by
 have h1:=AL.mem_get (XJ v) h;have h2:AL.getZ (Yi v) k 0=n:=by simp[AL.getZ,h1]
 rw[WQ] at h2;have h3:=(JO v [] (by simp)).2.2.2 k (List.mem_map.2 ⟨_,h,rfl⟩);simp at h3;omega
def xia(a b:DT):Int:=if a=b then 0 else if zn a b then -1 else 1
theorem JQ{a b:DT}:xia a b < 0↔zn a b=true:=by
 unfold xia
 split
 ·rename_i h;subst h;simp[zn]
 ·split <;> simp_all
end Go.Ep.M.V
namespace Go.Ep.M.R
open Go
def Yj(x:RN):Bool:=decide (1<=x.lo)&&(decide (x.lo<=x.hi)&&decide (x.hi<=281474976710655))
theorem zt{x:RN}:Yj x=true↔1<=x.lo/\x.lo<=x.hi/\x.hi<=281474976710655:=by simp[Yj]
def inR(n:Int)(x:RN):Bool:=Yj x&&(decide (x.lo<=n)&&decide (n<=x.hi))
theorem vr{n:Int}{x:RN}:inR n x=true↔(1<=x.lo/\x.lo<=x.hi/\x.hi<=281474976710655)/\x.lo<=n/\n<=x.hi:=by simp[inR,Yj]
def xi(l:List RN)(n:Int):Bool:=l.any (inR n)
theorem xr{l:List RN}{n:Int}:xi l n=true↔∃ x∈l,Yj x=true/\x.lo<=n/\n<=x.hi:=by
 unfold xi;rw[List.any_eq_true];simp[inR]
@[simp] theorem yDa(n:Int):xi [] n=false:=rfl
theorem uo(x:RN)(l:List RN)(n:Int):xi (x::l) n=(inR n x||xi l n):=rfl
theorem Zu(a b:List RN)(n:Int):xi (a++b) n=(xi a n||xi b n):=by simp[xi]
theorem ZH(x:RN)(n:Int):xi [x] n=inR n x:=by simp[xi]
theorem qg{a b:List RN}(h:a.Perm b)(n:Int):xi a n=xi b n:=by
 rw[Bool.eq_iff_iff,xr,xr];simp only[h.mem_iff]
theorem zJa(l:List RN)(n:Int):xi (l.filter Yj) n=xi l n:=by
 rw[Bool.eq_iff_iff,xr,xr];simp only[List.mem_filter];exact⟨fun⟨x,⟨h1,_⟩,h3⟩=>⟨x,h1,h3⟩,fun⟨x,h1,h2,h3⟩=>⟨x,⟨h1,h2⟩,h2,h3⟩⟩
def Nf : List RN->Prop
 | []=>True
 | x::r=>Yj x=true/\(∀ y∈r,x.hi+1 < y.lo)/\Nf r
theorem Nf.may{l:List RN}(h:Nf l):∀ x∈l,Yj x=true:=by
 induction l with
 | nil=>simp
 | cons y r ih=>
  intro x hx;rcases List.mem_cons.1 hx with rfl | hx
  ·exact h.1
  ·exact ih h.2.2 x hx
theorem Xm{l:List RN}{z:RN}:Nf (l++[z])↔Nf l/\Yj z=true/\∀ p∈l,p.hi+1 < z.lo:=by
 induction l with
 | nil=>simp[Nf]
 | cons x r ih=>
  simp only[List.cons_append,Nf,ih,List.mem_append,List.mem_cons,List.not_mem_nil,or_false]
  constructor
  ·rintro⟨h1,h2,h3,h4,h5⟩;refine⟨⟨h1,fun y hy=>h2 y (.inl hy),h3⟩,h4,fun p hp=>?_⟩;rcases hp with rfl | hp
   ·exact h2 z (.inr rfl)
   ·exact h5 p hp
  ·rintro⟨⟨h1,h2,h3⟩,h4,h5⟩;refine⟨h1,fun y hy=>?_,h3,h4,fun p hp=>h5 p (.inr hp)⟩;rcases hy with hy | rfl
   ·exact h2 y hy
   ·exact h5 x (.inl rfl)
theorem yEa{x:RN}{r:List RN}(h:Nf (x::r)){n:Int}(hn:xi r n=true):x.hi+1 < n:=by
 obtain⟨y,h1,_,h3,_⟩:=xr.1 hn;have:=h.2.1 y h1;omega
theorem Wl{x:RN}{r:List RN}(h:Nf (x::r)):xi (x::r) x.lo=true:=by
 rw[uo];have:=zt.1 h.1;rw[Bool.or_eq_true];exact .inl (vr.2 ⟨this,by omega,by omega⟩)
theorem Vb{x:RN}{r:List RN}(h:Nf (x::r)){n:Int}(hn:xi (x::r) n=true):x.lo<=n:=by
 rw[uo,Bool.or_eq_true] at hn;rcases hn with hn | hn
 ·exact(vr.1 hn).2.1
 ·have:=yEa h hn;have:=zt.1 h.1;omega
theorem zKa{x:RN}{r:List RN}(h:Nf (x::r)){n:Int}(h1:x.lo<=n):xi (x::r) n=true↔n<=x.hi\/xi r n=true:=by
 rw[uo,Bool.or_eq_true,vr];have:=zt.1 h.1
 constructor
 ·rintro(h2 | h2)
  ·exact .inl h2.2.2
  ·exact .inr h2
 ·rintro(h2 | h2)
  ·exact .inl ⟨this,h1,h2⟩
  ·exact .inr h2
theorem yFa : ∀ {a b:List RN},Nf a->Nf b->(∀ n,xi a n=xi b n)->a=b
 | [],[],_,_,_=>rfl
 | [],y::s,_,hb,h=>by have:=h y.lo;rw[Wl hb] at this;simp at this
 | x::r,[],ha,_,h=>by have:=h x.lo;rw[Wl ha] at this;simp at this
 | x::r,y::s,ha,hb,h=>by
  have h1:x.lo=y.lo:=by
   have h2:=Vb hb (by rw[<- h];exact Wl ha);have h3:=Vb ha (by rw[h];exact Wl hb);omega
  have hx:=zt.1 ha.1;have hy:=zt.1 hb.1;have hle:∀ {x y:RN} {r s:List RN},Nf (x::r)->Nf (y::s)->(∀ n,xi (x::r) n=xi (y::s) n)->x.lo=y.lo->y.hi<=x.hi:=by
   intro x y r s ha hb h h1;have hx:=zt.1 ha.1;refine Classical.byContradiction fun hc=>?_
   have h2:xi (y::s) (x.hi+1)=true:=(zKa hb (by omega)).2 (.inl (by omega));rw[<- h,zKa ha (by omega)] at h2;rcases h2 with h2 | h2
   ·omega
   ·have:=yEa ha h2;omega
  have h2:x.hi=y.hi:=by
   have:=hle ha hb h h1;have:=hle hb ha (fun n=>(h n).symm) h1.symm;omega
  have he:x=y:=by cases x;cases y;simp_all
  subst he;rw[yFa ha.2.2 hb.2.2 fun n=>?_];rw[Bool.eq_iff_iff];have h3:=h n
  constructor
  ·intro hn;have:=yEa ha hn;have h4:xi (x::r) n=true:=(zKa ha (by omega)).2 (.inr hn);rw[h3,zKa hb (by omega)] at h4;rcases h4 with h4 | h4
   ·omega
   ·exact h4
  ·intro hn;have:=yEa hb hn;have h4:xi (x::s) n=true:=(zKa hb (by omega)).2 (.inr hn);rw[<- h3,zKa ha (by omega)] at h4;rcases h4 with h4 | h4
   ·omega
   ·exact h4
def jS(n:Int)(s:Bool×List Int)(x:Int):Bool×List Int:=
 let t:=if s.1=false/\n<=x then (true,s.2++[n]) else s
 if x=n then t else (t.1,t.2++[x])
def putP(l:List Int)(n:Int):List Int:=let t:=l.foldl (jS n) (false,[]);if t.1 then t.2 else t.2++[n]
abbrev Up(l:List Int):Prop:=l.Pairwise (· < ·)
theorem UP{l:List Int}{z:Int}:Up (l++[z])↔Up l/\∀ p∈l,p < z:=by
 unfold Up;rw[List.pairwise_append];simp
theorem WR(n:Int):∀ (l:List Int) (s:Bool×List Int),Up l->Up s.2->(∀ p∈s.2,∀ x∈l,p < x\/(p=n/\s.1=true/\p<=x))->(s.1=true->n∈s.2)->(s.1=false->∀ p∈s.2,p < n) ->
  Up (l.foldl (jS n) s).2/\(∀ m,m∈(l.foldl (jS n) s).2↔m∈s.2\/(m∈l/\m≠n)\/(m=n/\(l.foldl (jS n) s).1=true))/\((l.foldl (jS n) s).1=false->∀ p∈(l.foldl (jS n) s).2,p < n)/\(l.foldl (jS n) s).2.length<=s.2.length+l.length+(if s.1 then 0 else 1)/\((l.foldl (jS n) s).1=false->(l.foldl (jS n) s).2.length<=s.2.length+l.length)
 | [],s,_,hs,_,h2,h3=>by
  refine⟨hs,fun m=>?_,h3,by simp,by simp⟩;simp only[List.foldl_nil,List.not_mem_nil,false_and,false_or];exact⟨fun h=>.inl h,fun h=>h.elim id fun⟨e,h⟩=>e▸h2 h⟩
 | x::r,(d,out),hl,hs,h1,h2,h3=>by
  rw[List.foldl_cons];have hl':=List.pairwise_cons.1 hl;simp only at hs h1 h2 h3
  by_cases hc:d=false/\n<=x
  ·obtain⟨rfl,hnx⟩:=hc
   by_cases hx:x=n
   ·have e:jS n (false,out) x=(true,out++[n]):=by simp[jS,hx]
    rw[e];obtain⟨i1,i2,i3,i4,i5⟩:=WR n r (true,out++[n]) hl'.2 (UP.2 ⟨hs,h3 rfl⟩) (fun p hp y hy=>by
     have:=hl'.1 y hy;rcases List.mem_append.1 hp with hp | hp
     ·have:=h3 rfl p hp;left;omega
     ·simp at hp;left;omega) (fun _=>by simp) (fun h=>by cases h)
    refine⟨i1,fun m=>?_,i3,?_,?_⟩
    ·rw[i2];simp only[List.mem_append,List.mem_cons,List.not_mem_nil,or_false]
     constructor
     ·rintro((h | h) | h | h)
      ·exact .inl h
      ·refine .inr (.inr ⟨h,?_⟩)
       cases hb:(r.foldl (jS n) (true,out++[n])).1 with
       | true=>rfl
       | false=>have:=i3 hb n ((i2 n).2 (.inl (by simp)));omega
      ·exact .inr (.inl ⟨.inr h.1,h.2⟩)
      ·exact .inr (.inr h)
     ·rintro(h | ⟨h | h,h'⟩ | h)
      ·exact .inl (.inl h)
      ·exact absurd (h.trans hx) h'
      ·exact .inr (.inl ⟨h,h'⟩)
      ·exact .inr (.inr h)
    ·simp at i4 ⊢;omega
    ·intro hf;have:=i5 hf;simp at this ⊢;omega
   ·have e:jS n (false,out) x=(true,out++[n]++[x]):=by simp[jS,hx,hnx]
    rw[e];obtain⟨i1,i2,i3,i4,i5⟩:=WR n r (true,out++[n]++[x]) hl'.2 (UP.2 ⟨UP.2 ⟨hs,h3 rfl⟩,fun p hp=>by
     rcases List.mem_append.1 hp with hp | hp
     ·have:=h3 rfl p hp;omega
     ·simp at hp;omega⟩) (fun p hp y hy=>by
     have:=hl'.1 y hy;simp only[List.mem_append,List.mem_singleton] at hp;rcases hp with(hp | hp) | hp
     ·have:=h3 rfl p hp;left;omega
     ·left;omega
     ·left;omega) (fun _=>by simp) (fun h=>by cases h)
    refine⟨i1,fun m=>?_,i3,?_,?_⟩
    ·rw[i2];simp only[List.mem_append,List.mem_cons,List.not_mem_nil,or_false]
     constructor
     ·rintro(((h | h) | h) | h | h)
      ·exact .inl h
      ·refine .inr (.inr ⟨h,?_⟩)
       cases hb:(r.foldl (jS n) (true,out++[n]++[x])).1 with
       | true=>rfl
       | false=>have:=i3 hb n ((i2 n).2 (.inl (by simp)));omega
      ·exact .inr (.inl ⟨.inl h,fun e=>hx (h.symm.trans e)⟩)
      ·exact .inr (.inl ⟨.inr h.1,h.2⟩)
      ·exact .inr (.inr h)
     ·rintro(h | ⟨h | h,h'⟩ | h)
      ·exact .inl (.inl (.inl h))
      ·exact .inl (.inr h)
      ·exact .inr (.inl ⟨h,h'⟩)
      ·exact .inr (.inr h)
    ·simp at i4 ⊢;omega
    ·intro hf;have:=i5 hf;simp at this ⊢;exfalso;have:=i3 hf n ((i2 n).2 (.inl (by simp)));omega
  ·by_cases hx:x=n
   ·have hd:d=true:=by cases d with | true=>rfl | false=>exact absurd ⟨rfl,by omega⟩ hc
    subst hd;have e:jS n (true,out) x=(true,out):=by simp[jS,hx]
    rw[e];obtain⟨i1,i2,i3,i4,i5⟩:=WR n r (true,out) hl'.2 hs (fun p hp y hy=>h1 p hp y (List.mem_cons_of_mem _ hy)) h2 h3;refine⟨i1,fun m=>?_,i3,?_,?_⟩
    ·rw[i2];simp only[List.mem_cons]
     constructor
     ·rintro(h | h | h)
      ·exact .inl h
      ·exact .inr (.inl ⟨.inr h.1,h.2⟩)
      ·exact .inr (.inr h)
     ·rintro(h | ⟨h | h,h'⟩ | h)
      ·exact .inl h
      ·exact absurd (h.trans hx) h'
      ·exact .inr (.inl ⟨h,h'⟩)
      ·exact .inr (.inr h)
    ·simp at i4 ⊢;omega
    ·intro hf;have:=i5 hf;simp at this ⊢;omega
   ·have e:jS n (d,out) x=(d,out++[x]):=by
     unfold jS;simp only[hc,if_false,hx]
    rw[e];have hlt:d=false->x < n:=fun h=>by
     have:¬ n<=x:=fun h'=>hc ⟨h,h'⟩
     omega
    obtain⟨i1,i2,i3,i4,i5⟩:=WR n r (d,out++[x]) hl'.2 (UP.2 ⟨hs,fun p hp=>by
     rcases h1 p hp x (by simp) with h | h
     ·exact h
     ·omega⟩) (fun p hp y hy=>by
     rcases List.mem_append.1 hp with hp | hp
     ·exact h1 p hp y (List.mem_cons_of_mem _ hy)
     ·simp at hp;have:=hl'.1 y hy;left;omega) (fun h=>List.mem_append_left _ (h2 h)) (fun h p hp=>by
     rcases List.mem_append.1 hp with hp | hp
     ·exact h3 h p hp
     ·simp at hp;rw[hp];exact hlt h)
    refine⟨i1,fun m=>?_,i3,?_,?_⟩
    ·rw[i2];simp only[List.mem_append,List.mem_cons,List.not_mem_nil,or_false]
     constructor
     ·rintro((h | h) | h | h)
      ·exact .inl h
      ·exact .inr (.inl ⟨.inl h,fun e=>hx (h.symm.trans e)⟩)
      ·exact .inr (.inl ⟨.inr h.1,h.2⟩)
      ·exact .inr (.inr h)
     ·rintro(h | ⟨h | h,h'⟩ | h)
      ·exact .inl (.inl h)
      ·exact .inl (.inr h)
      ·exact .inr (.inl ⟨h,h'⟩)
      ·exact .inr (.inr h)
    ·simp at i4 ⊢;omega
    ·intro hf;have:=i5 hf;simp at this ⊢;omega
theorem jT{l:List Int}(h:Up l)(n:Int):Up (putP l n)/\(∀ m,m∈putP l n↔m∈l\/m=n)/\(putP l n).length<=l.length+1:=by
 obtain⟨i1,i2,i3,i4,i5⟩:=WR n l (false,[]) h (by simp[Up]) (by simp) (by simp) (by simp);unfold putP;simp only
 cases hb:(l.foldl (jS n) (false,[])).1 with
 | true=>
  simp only[if_true];refine⟨i1,fun m=>?_,by simpa using i4⟩;rw[i2,hb];simp only[List.not_mem_nil,false_or,and_true]
  constructor
  ·rintro(h | h)
   ·exact .inl h.1
   ·exact .inr h
  ·rintro(h | h)
   ·by_cases e:m=n
    ·exact .inr e
    ·exact .inl ⟨h,e⟩
   ·exact .inr h
 | false=>
  have:=i5 hb;rw[if_neg (by simp)];refine⟨UP.2 ⟨i1,i3 hb⟩,fun m=>?_,by simp at this ⊢;omega⟩;simp only[List.mem_append,List.mem_singleton,i2,hb,List.not_mem_nil,false_or]
  constructor
  ·rintro((h | h) | h)
   ·exact .inl h.1
   ·cases h.2
   ·exact .inr h
  ·rintro(h | h)
   ·by_cases e:m=n
    ·exact .inr e
    ·exact .inl (.inl ⟨h,e⟩)
   ·exact .inr h
def ptS(out:List Int)(x:RN):List Int:=if Yj x then putP (putP out x.lo) (x.hi+1) else out
def Qc(l:List RN):List Int:=l.foldl ptS []
theorem zLa : ∀ (l:List RN) (out:List Int),Up out->Up (l.foldl ptS out)/\(∀ m,m∈l.foldl ptS out↔m∈out\/∃ x∈l,Yj x=true/\(m=x.lo\/m=x.hi+1))/\(l.foldl ptS out).length<=out.length+2*l.length
 | [],out,h=>⟨h,fun m=>by simp,by simp⟩
 | x::r,out,h=>by
  rw[List.foldl_cons];obtain⟨j1,j2,j3⟩:=jT h x.lo;obtain⟨k1,k2,k3⟩:=jT j1 (x.hi+1)
  by_cases hm:Yj x=true
  ·have e:ptS out x=putP (putP out x.lo) (x.hi+1):=by simp[ptS,hm]
   rw[e];obtain⟨i1,i2,i3⟩:=zLa r _ k1;refine⟨i1,fun m=>?_,by simp;omega⟩;rw[i2,k2,j2]
   constructor
   ·rintro(((h | h) | h) | ⟨y,h1,h2⟩)
    ·exact .inl h
    ·exact .inr ⟨x,by simp,hm,.inl h⟩
    ·exact .inr ⟨x,by simp,hm,.inr h⟩
    ·exact .inr ⟨y,by simp[h1],h2⟩
   ·rintro(h | ⟨y,h1,h2,h3⟩)
    ·exact .inl (.inl (.inl h))
    ·rcases List.mem_cons.1 h1 with rfl | h1
     ·rcases h3 with h3 | h3
      ·exact .inl (.inl (.inr h3))
      ·exact .inl (.inr h3)
     ·exact .inr ⟨y,h1,h2,h3⟩
  ·have e:ptS out x=out:=by simp[ptS,hm]
   rw[e];obtain⟨i1,i2,i3⟩:=zLa r _ h;refine⟨i1,fun m=>?_,by simp;omega⟩;rw[i2]
   constructor
   ·rintro(h | ⟨y,h1,h2⟩)
    ·exact .inl h
    ·exact .inr ⟨y,by simp[h1],h2⟩
   ·rintro(h | ⟨y,h1,h2,h3⟩)
    ·exact .inl h
    ·rcases List.mem_cons.1 h1 with rfl | h1
     ·exact absurd h2 hm
     ·exact .inr ⟨y,h1,h2,h3⟩
theorem xKa(l:List RN):Up (Qc l)/\(∀ m,m∈Qc l↔∃ x∈l,Yj x=true/\(m=x.lo\/m=x.hi+1))/\(Qc l).length<=2*l.length:=by
 obtain⟨h1,h2,h3⟩:=zLa l [] (by simp[Up]);exact⟨h1,fun m=>by rw[Qc,h2];simp,by simpa[Qc] using h3⟩
def yGa(out:List RN)(p:Int)(z:RN->RN)(x:RN):List RN:=match out.getLast? with
 | some y=>if y.hi+1=p then out.dropLast++[z y] else out++[x]
 | none=>out++[x]
def setS(op:Bool->Bool->Bool)(a b:List RN)(out:List RN)(pq:Int×Int):List RN:=
 if op (xi a pq.1) (xi b pq.1) then yGa out pq.1 (fun y=>⟨y.lo,pq.2 - 1⟩) ⟨pq.1,pq.2 - 1⟩ else out
def YG(l:List Int):List (Int×Int):=l.zip l.tail
def wda(op:Bool->Bool->Bool)(a b:List RN):List RN:=(YG (Qc (a++b))).foldl (setS op a b) []
theorem xLa(p:Int)(z:RN->RN)(x:RN):yGa [] p z x=[x]:=rfl
theorem zMa(l:List RN)(y:RN)(p:Int)(z:RN->RN)(x:RN):yGa (l++[y]) p z x=if y.hi+1=p then l++[z y] else l++[y]++[x]:=by simp[yGa]
theorem xA{α:Type}(l:List α):l=[]\/∃ r y,l=r++[y]:=by
 rcases List.eq_nil_or_concat l with h | ⟨r,y,h⟩
 ·exact .inl h
 ·exact .inr ⟨r,y,by simpa using h⟩
theorem yHa(op:Bool->Bool->Bool)(a b:List RN):∀ (P:List Int) (p:Int) (out:List RN),Up (p::P)->(∀ q∈p::P,1<=q/\q<=281474976710656)->Nf out->(∀ y∈out,y.hi < p) ->
  Nf ((YG (p::P)).foldl (setS op a b) out)/\(∀ n,xi ((YG (p::P)).foldl (setS op a b) out) n=true↔xi out n=true\/∃ pq∈YG (p::P),pq.1<=n/\n < pq.2/\op (xi a pq.1) (xi b pq.1)=true)/\((YG (p::P)).foldl (setS op a b) out).length<=out.length+P.length
 | [],p,out,_,_,h,_=>by simp[YG,h]
 | q::P,p,out,hu,hr,h,hy=>by
  have e:YG (p::q::P)=(p,q)::YG (q::P):=rfl;rw[e,List.foldl_cons];have hu':=List.pairwise_cons.1 hu;have hpq:p < q:=hu'.1 q (by simp);have hp:=hr p (by simp);have hq:=hr q (by simp);have step:Nf (setS op a b out (p,q))/\(∀ n,xi (setS op a b out (p,q)) n=true↔xi out n=true\/(p<=n/\n < q/\op (xi a p) (xi b p)=true))/\(∀ y∈setS op a b out (p,q),y.hi < q)/\(setS op a b out (p,q)).length<=out.length+1:=by
   unfold setS;simp only
   by_cases hop:op (xi a p) (xi b p)=true
   ·rw[if_pos hop];rcases xA out with rfl | ⟨l,y,rfl⟩
    ·rw[xLa];have hm:Yj (⟨p,q - 1⟩:RN)=true:=zt.2 ⟨hp.1,by simp only;omega,by simp only;omega⟩;refine⟨⟨hm,by simp,trivial⟩,fun n=>?_,fun y hy=>?_,by simp⟩
     ·rw[ZH,vr];have:=zt.1 hm;simp only at this ⊢;simp only[yDa,Bool.false_eq_true,false_or,hop,and_true];omega
     ·simp at hy;subst hy;simp only;omega
    ·rw[zMa];obtain⟨n1,n2,n3⟩:=Xm.1 h;have hym:=zt.1 n2;have hyp:=hy y (by simp)
     by_cases hadj:y.hi+1=p
     ·rw[if_pos hadj];have hm:Yj (⟨y.lo,q - 1⟩:RN)=true:=zt.2 ⟨hym.1,by simp only;omega,by simp only;omega⟩;refine⟨Xm.2 ⟨n1,hm,n3⟩,fun n=>?_,fun z hz=>?_,by simp⟩
      ·rw[Zu,Zu,ZH,ZH,Bool.or_eq_true,Bool.or_eq_true,vr,vr];have:=zt.1 hm;simp only at this ⊢;simp only[hop,and_true]
       constructor
       ·rintro(h | h)
        ·exact .inl (.inl h)
        ·by_cases hc:n<=y.hi
         ·exact .inl (.inr ⟨hym,h.2.1,hc⟩)
         ·right;omega
       ·rintro((h | h) | h)
        ·exact .inl h
        ·right;omega
        ·right;omega
      ·rcases List.mem_append.1 hz with hz | hz
       ·have:=hy z (by simp[hz]);omega
       ·simp at hz;subst hz;simp only;omega
     ·rw[if_neg hadj];have hm:Yj (⟨p,q - 1⟩:RN)=true:=zt.2 ⟨hp.1,by simp only;omega,by simp only;omega⟩;refine⟨Xm.2 ⟨h,hm,fun z hz=>?_⟩,fun n=>?_,fun z hz=>?_,by simp⟩
      ·simp only;rcases List.mem_append.1 hz with hz | hz
       ·have:=n3 z hz;omega
       ·simp at hz;subst hz;omega
      ·rw[Zu (l++[y]),ZH,Bool.or_eq_true,vr];have:=zt.1 hm;simp only at this ⊢;simp only[hop,and_true]
       constructor
       ·rintro(h | h)
        ·exact .inl h
        ·right;omega
       ·rintro(h | h)
        ·exact .inl h
        ·right;omega
      ·rcases List.mem_append.1 hz with hz | hz
       ·have:=hy z hz;omega
       ·simp at hz;subst hz;simp only;omega
   ·rw[if_neg hop];refine⟨h,fun n=>?_,fun y hy'=>by have:=hy y hy';omega,by omega⟩;exact⟨fun h=>.inl h,fun h=>h.elim id fun h=>absurd h.2.2 hop⟩
  obtain⟨s1,s2,s3,s4⟩:=step;obtain⟨i1,i2,i3⟩:=yHa op a b P q _ hu'.2 (fun z hz=>hr z (List.mem_cons_of_mem _ hz)) s1 s3;refine⟨i1,fun n=>?_,by simp;omega⟩;rw[i2,s2];simp only[List.mem_cons,exists_eq_or_imp]
  constructor
  ·rintro((h | h) | h)
   ·exact .inl h
   ·exact .inr (.inl h)
   ·exact .inr (.inr h)
  ·rintro(h | h | h)
   ·exact .inl (.inl h)
   ·exact .inl (.inr h)
   ·exact .inr h
theorem Wm : ∀ {P:List Int},Up P->∀ pq∈YG P,pq.1∈P/\pq.2∈P/\pq.1 < pq.2/\∀ m∈P,m<=pq.1\/pq.2<=m
 | [],_,pq,h=>by simp[YG] at h
 | [p],_,pq,h=>by simp[YG] at h
 | p::q::P,hu,pq,h=>by
  have e:YG (p::q::P)=(p,q)::YG (q::P):=rfl;rw[e] at h;have hu':=List.pairwise_cons.1 hu;rcases List.mem_cons.1 h with rfl | h
  ·refine⟨by simp,by simp,hu'.1 q (by simp),fun m hm=>?_⟩;rcases List.mem_cons.1 hm with rfl | hm
   ·simp
   ·right
    rcases List.mem_cons.1 hm with rfl | hm
    ·simp
    ·have:=(List.pairwise_cons.1 hu'.2).1 m hm;simp only;omega
  ·obtain⟨h1,h2,h3,h4⟩:=Wm hu'.2 pq h;refine⟨List.mem_cons_of_mem _ h1,List.mem_cons_of_mem _ h2,h3,fun m hm=>?_⟩;rcases List.mem_cons.1 hm with rfl | hm
   ·left;have:=hu'.1 _ h1;omega
   ·exact h4 m hm
theorem jU : ∀ {P:List Int},Up P->∀ {u v n:Int},u∈P->v∈P->u<=n->n < v->∃ pq∈YG P,pq.1<=n/\n < pq.2
 | [],_,_,_,_,h,_,_,_=>by simp at h
 | [p],_,u,v,n,h1,h2,h3,h4=>by simp at h1 h2;omega
 | p::q::P,hu,u,v,n,h1,h2,h3,h4=>by
  have e:YG (p::q::P)=(p,q)::YG (q::P):=rfl;have hu':=List.pairwise_cons.1 hu
  by_cases hc:n < q
  ·refine⟨(p,q),by rw[e];simp,?_,hc⟩;rcases List.mem_cons.1 h1 with rfl | h1
   ·exact h3
   ·have:q<=u:=by
     rcases List.mem_cons.1 h1 with rfl | h1
     ·omega
     ·have:=(List.pairwise_cons.1 hu'.2).1 u h1;omega
    simp only;omega
  ·have hv:v∈q::P:=by
    rcases List.mem_cons.1 h2 with rfl | h2
    ·have:=hu'.1 q (by simp);omega
    ·exact h2
   obtain⟨pq,h5,h6⟩:=jU hu'.2 (u:=q) (by simp) hv (by omega) h4;exact⟨pq,by rw[e];exact List.mem_cons_of_mem _ h5,h6⟩
theorem Zv{l:List RN}{P:List Int}(hP:∀ x∈l,Yj x=true->x.lo∈P/\x.hi+1∈P){p q n:Int}(h1:∀ m∈P,m<=p\/q<=m)(h2:p<=n)(h3:n < q):xi l n=xi l p:=by
 rw[Bool.eq_iff_iff,xr,xr]
 constructor
 ·rintro⟨x,hx,hm,h4,h5⟩;obtain⟨h6,h7⟩:=hP x hx hm;have:=h1 _ h6;have:=h1 _ h7;exact⟨x,hx,hm,by omega,by omega⟩
 ·rintro⟨x,hx,hm,h4,h5⟩;obtain⟨h6,h7⟩:=hP x hx hm;have:=h1 _ h6;have:=h1 _ h7;exact⟨x,hx,hm,by omega,by omega⟩
theorem vM(op:Bool->Bool->Bool)(h0:op false false=false)(a b:List RN):Nf (wda op a b)/\(∀ n,xi (wda op a b) n=op (xi a n) (xi b n))/\(wda op a b).length<=2*(a.length+b.length):=by
 obtain⟨p1,p2,p3⟩:=xKa (a++b);have hrange:∀ q∈Qc (a++b),1<=q/\q<=281474976710656:=fun q hq=>by
  obtain⟨x,_,h2,h3⟩:=(p2 q).1 hq;have:=zt.1 h2;omega
 have main:Nf (wda op a b)/\(∀ n,xi (wda op a b) n=true↔∃ pq∈YG (Qc (a++b)),pq.1<=n/\n < pq.2/\op (xi a pq.1) (xi b pq.1)=true)/\(wda op a b).length<=(Qc (a++b)).length:=by
  unfold wda
  generalize hP:Qc (a++b)=P at p1 hrange
  cases P with
  | nil=>simp[YG,Nf]
  | cons p P=>
   obtain⟨i1,i2,i3⟩:=yHa op a b P p [] p1 hrange trivial (by simp);exact⟨i1,fun n=>by rw[i2];simp,by simp at i3 ⊢;omega⟩
 obtain⟨m1,m2,m3⟩:=main;refine⟨m1,fun n=>?_,by simp at p3;omega⟩;have hPa:∀ x∈a,Yj x=true->x.lo∈Qc (a++b)/\x.hi+1∈Qc (a++b):=fun x hx hm=>⟨(p2 _).2 ⟨x,by simp[hx],hm,.inl rfl⟩,(p2 _).2 ⟨x,by simp[hx],hm,.inr rfl⟩⟩
 have hPb:∀ x∈b,Yj x=true->x.lo∈Qc (a++b)/\x.hi+1∈Qc (a++b):=fun x hx hm=>⟨(p2 _).2 ⟨x,by simp[hx],hm,.inl rfl⟩,(p2 _).2 ⟨x,by simp[hx],hm,.inr rfl⟩⟩
 rw[Bool.eq_iff_iff,m2]
 constructor
 ·rintro⟨pq,h1,h2,h3,h4⟩;obtain⟨_,_,_,h5⟩:=Wm p1 pq h1
  rwa [Zv hPa h5 h2 h3,Zv hPb h5 h2 h3]
 ·intro h;have hex:∃ u∈Qc (a++b),∃ v∈Qc (a++b),u<=n/\n < v:=by
   cases ha:xi a n with
   | true=>
    obtain⟨x,h1,h2,h3,h4⟩:=xr.1 ha;exact⟨_,(hPa x h1 h2).1,_,(hPa x h1 h2).2,h3,by omega⟩
   | false=>
    cases hb:xi b n with
    | true=>
     obtain⟨x,h1,h2,h3,h4⟩:=xr.1 hb;exact⟨_,(hPb x h1 h2).1,_,(hPb x h1 h2).2,h3,by omega⟩
    | false=>rw[ha,hb,h0] at h;cases h
  obtain⟨u,hu,v,hv,h1,h2⟩:=hex;obtain⟨pq,h3,h4,h5⟩:=jU p1 hu hv h1 h2;obtain⟨_,_,_,h6⟩:=Wm p1 pq h3;exact⟨pq,h3,h4,h5,by rwa [<- Zv hPa h6 h4 h5,<- Zv hPb h6 h4 h5]⟩
def nrm(l:List RN):List RN:=wda (·||·) l []
theorem jV(l:List RN):Nf (nrm l):=(vM _ rfl l []).1
theorem Wn(l:List RN)(n:Int):xi (nrm l) n=xi l n:=by rw[nrm,(vM _ rfl l []).2.1];simp
theorem zNa(l:List RN):(nrm l).length<=2*l.length:=by
 have:=(vM (·||·) rfl l []).2.2;rw[List.length_nil,Nat.add_zero] at this;exact this
theorem nrm_of{l r:List RN}(h:Nf r)(h2:∀ n,xi r n=xi l n):r=nrm l:=yFa h (jV l) fun n=>by rw[h2,Wn]
theorem yIa{l:List RN}(h:Nf l):nrm l=l:=(nrm_of h fun _=>rfl).symm
theorem wea(x y:RN):(decide (x.lo=y.lo)&&decide (x.hi=y.hi))=decide (x=y):=by
 rw[Bool.eq_iff_iff]
 cases x;cases y
 simp
theorem eqLoop{body:Int->M (Step Int (Ex Unit Bool))}(a b:List RN)(hl:a.length=b.length)(hn:a.length<=1000000000000)
  (hb:∀ i:Int,body i=cond (decide (i < (a.length:Int))) (M.bind (M.idx a i) fun x=>M.bind (M.idx b i) fun y=>cond (!(decide (x.lo=y.lo)&&decide (x.hi=y.hi))) (M.pure (.done (.ret false))) (M.pure (.next (IntKind.i64.wrap (i+1))))) (M.pure (.done (.brk ())))) :
  M.bind (M.loop body 0) (M.exk fun _=>M.pure true)=pure (decide (a=b)):=by
 have:=vL (body:=body) a (fun i=>(i:Int)) (fun i x=>decide (b[i]?=some x)) (.brk ()) (.ret false) (fun i x hx hi=>by
  have hb':i < b.length:=by omega
  rw[hb,zT hx,zT (List.getElem?_eq_getElem hb'),yt (by omega)];simp only[zA,List.getElem?_eq_getElem hb',Option.some.injEq,wea];have:decide ((i:Int) < (a.length:Int))=true:=by simpa using hi
  rw[this,cond_true]
  by_cases he:b[i]=x
  ·subst he;simp
  ·rw[if_neg (by simpa using he)];have:decide (x=b[i])=false:=by simpa using fun h=>he h.symm
   rw[this];rfl) (by rw[hb];simp)
 rw[show(0:Int)=((0:Nat):Int) from rfl,this]
 by_cases he:a=b
 ·subst he;rw[if_pos]
  ·simp[zA,uV]
  ·rw[List.all_eq_true];intro ⟨x,i⟩ hx;rw[List.mk_mem_zipIdx_iff_getElem?] at hx;simpa using hx
 ·rw[if_neg]
  ·simp[he,zA,Vu]
  ·intro hall;rw[List.all_eq_true] at hall;apply he;apply List.ext_getElem (by omega);intro i h1 h2;have:=hall (a[i],i) (by rw[List.mk_mem_zipIdx_iff_getElem?];exact List.getElem?_eq_getElem h1);simp[h2] at this;exact this.symm
theorem req_eq(a b:List RN)(h:a.length<=1000000000000):z1a a b=pure (decide (a=b)):=by
 unfold z1a
 by_cases hl:(a.length:Int)=b.length
 ·simp only[hl,decide_true,Bool.not_true,cond_false];exact eqLoop a b (by omega) h fun i=>rfl
 ·have hne:a≠b:=fun e=>hl (by rw[e])
  simp[hl,hne]
theorem seq_eq(a b:List RN)(h:a.length<=1000000000000):yT a b=pure (decide (a=b)):=by
 unfold yT
 by_cases hl:(a.length:Int)=b.length
 ·simp only[hl,decide_true,Bool.not_true,cond_false];exact eqLoop a b (by omega) h fun i=>rfl
 ·have hne:a≠b:=fun e=>hl (by rw[e])
  simp[hl,hne]
def qh(out:List RN)(x:RN):List RN:=match out.getLast? with
 | some y=>if x.lo<=y.hi+1 then out.dropLast++[⟨y.lo,max y.hi x.hi⟩] else out++[x]
 | none=>out++[x]
theorem JR(x:RN):qh [] x=[x]:=rfl
theorem UQ(l:List RN)(y x:RN):qh (l++[y]) x=if x.lo<=y.hi+1 then l++[⟨y.lo,max y.hi x.hi⟩] else l++[y]++[x]:=by simp[qh]
theorem xMa{out:List RN}{x:RN}(h:Nf out)(hx:Yj x=true)(hlo:∀ y∈out,y.lo<=x.lo):Nf (qh out x)/\(∀ n,xi (qh out x) n=(xi out n||inR n x))/\(∀ y∈qh out x,y.lo<=x.lo)/\(qh out x).length<=out.length+1:=by
 have hxm:=zt.1 hx;rcases xA out with rfl | ⟨l,y,rfl⟩
 ·rw[JR];exact⟨⟨hx,by simp,trivial⟩,fun n=>by rw[ZH];simp,by simp,by simp⟩
 ·rw[UQ];obtain⟨n1,n2,n3⟩:=Xm.1 h;have hym:=zt.1 n2;have hyx:=hlo y (by simp)
  by_cases hc:x.lo<=y.hi+1
  ·rw[if_pos hc];have hm:Yj (⟨y.lo,max y.hi x.hi⟩:RN)=true:=zt.2 ⟨hym.1,by simp only;omega,by simp only;omega⟩;refine⟨Xm.2 ⟨n1,hm,n3⟩,fun n=>?_,fun z hz=>?_,by simp⟩
   ·rw[Zu,Zu,ZH,ZH,Bool.or_assoc]
    congr 1
    rw[Bool.eq_iff_iff,Bool.or_eq_true,vr,vr,vr];have:=zt.1 hm;simp only at this ⊢;omega
   ·rcases List.mem_append.1 hz with hz | hz
    ·exact hlo z (by simp[hz])
    ·simp at hz;subst hz;exact hyx
  ·rw[if_neg hc];refine⟨Xm.2 ⟨h,hx,fun z hz=>?_⟩,fun n=>by rw[Zu (l++[y]),ZH],fun z hz=>?_,by simp⟩
   ·rcases List.mem_append.1 hz with hz | hz
    ·have:=n3 z hz;omega
    ·simp at hz;subst hz;omega
   ·rcases List.mem_append.1 hz with hz | hz
    ·exact hlo z hz
    ·simp at hz;subst hz;exact Int.le_refl _
theorem UR : ∀ (s out:List RN),Nf out->(∀ x∈s,Yj x=true)->s.Pairwise (fun x y=>x.lo<=y.lo)->(∀ y∈out,∀ x∈s,y.lo<=x.lo)->Nf (s.foldl qh out)/\(∀ n,xi (s.foldl qh out) n=(xi out n||xi s n))/\(s.foldl qh out).length<=out.length+s.length
 | [],out,h,_,_,_=>⟨h,by simp,by simp⟩
 | x::r,out,h,hm,hp,hlo=>by
  obtain⟨a1,a2,a3,a4⟩:=xMa h (hm x (by simp)) fun y hy=>hlo y hy x (by simp)
  obtain⟨p1,p2⟩:=List.pairwise_cons.1 hp;obtain⟨i1,i2,i3⟩:=UR r _ a1 (fun y hy=>hm y (List.mem_cons_of_mem _ hy)) p2 fun y hy z hz=>by
   have:=a3 y hy;have:=p1 z hz;omega
  refine⟨i1,fun n=>?_,by simp;omega⟩;rw[List.foldl_cons,i2,a2,uo,Bool.or_assoc]
theorem wfa{l:List RN}{Q:List RN->Prop}(h:∀ s,s.Perm l->s.Pairwise (fun x y=>x.lo<=y.lo)->Q s):(srt Us l).wp Q:=by
 refine⟨⟨l.mergeSort (fun x y=>decide (x.lo<=y.lo)),List.mergeSort_perm _ _,?_⟩,fun s ⟨h1,h2⟩=>h s h1 (h2.imp fun {x y} h=>?_)⟩
 ·refine(List.pairwise_mergeSort (fun a b c h1 h2=>?_) (fun a b=>?_) l).imp fun {x y} h=>?_
  ·simp only[decide_eq_true_eq] at h1 h2 ⊢;omega
  ·simp only[Bool.or_eq_true,decide_eq_true_eq];omega
  ·simp only[decide_eq_true_eq] at h;unfold Us;simp only[decide_eq_false_iff_not];omega
 ·unfold Us at h;simp only[decide_eq_false_iff_not] at h;omega
theorem zOa(l:List RN)(h:l.length<=1000000000000):va l=pure (nrm l):=by
 unfold va;have h1:=zGa (body:=vY l) l (fun i (t:List RN)=>((i:Int),t)) (fun t x=>if Yj x then t++[x] else t) (fun t=>pure t) (fun i t=>t.length<=i) (fun i x t hx hi hI=>by
  have h1:decide ((i:Int) < (l.length:Int))=true:=by simpa using hi
  refine⟨?_,by split <;> (try simp only[List.length_append,List.length_singleton]) <;> omega⟩;unfold vY;simp only[h1,cond_true,zT hx,zA,yt (show i < 9223372036854775807 by omega)];have e:(cond (decide (0 < x.lo)) (cond (decide (x.lo<=x.hi)) (M.pure (decide (x.hi<=281474976710655))) (M.pure false)) (M.pure false):M Bool)=pure (Yj x):=by
   rw[xm,xm];refine congrArg pure ?_;rw[Bool.eq_iff_iff,zt];simp only[Bool.and_eq_true,decide_eq_true_eq];omega
  rw[e,zA]
  cases hm:Yj x with
  | false=>simp[zA]
  | true=>
   rw[cond_true,zF (by simp;omega)];simp[zA]) (fun t _=>by unfold vY;simp[zA]) [] (by simp)
 have hf:∀ (l t:List RN),l.foldl (fun t x=>if Yj x then t++[x] else t) t=t++l.filter Yj:=by
  intro l
  induction l with
  | nil=>simp
  | cons x r ih=>
   intro t;rw[List.foldl_cons,ih]
   cases hm:Yj x <;> simp[hm]
 rw[hf,List.nil_append] at h1;have h1':loop (vY l) (0,[])=pure (l.filter Yj):=h1;have hfl:(l.filter Yj).length<=l.length:=List.length_filter_le _ _;rw[h1',zA,zF (by omega)];refine uU (wfa fun s hs hp=>?_);have hsl:=hs.length_eq;have hmay:∀ x∈s,Yj x=true:=fun x hx=>(List.mem_filter.1 (hs.mem_iff.1 hx)).2
 have hpre:∀ i,Nf ((s.take i).foldl qh [])/\((s.take i).foldl qh []).length<=i/\∀ x,s[i]?=some x->∀ y∈(s.take i).foldl qh [],y.lo<=x.lo:=fun i=>by
  obtain⟨i1,i2,i3⟩:=UR (s.take i) [] trivial (fun x hx=>hmay x (List.mem_of_mem_take hx)) (List.Pairwise.sublist (List.take_sublist _ _) hp) (by simp);refine⟨i1,by simp at i3;omega,fun x hx y hy=>?_⟩;have hmy:=zt.1 (i1.may y hy);have:xi ((s.take i).foldl qh []) y.lo=true:=xr.2 ⟨y,hy,i1.may y hy,by omega,by omega⟩;rw[i2] at this;simp only[yDa,Bool.false_or] at this;obtain⟨z,hz,_,h3,_⟩:=xr.1 this
  -- z is ahead of x; y begins where one of those ahead begins
  have hall:∀ (s out:List RN),(∀ y∈s.foldl qh out,(∃ z∈out,y.lo=z.lo)\/∃ z∈s,y.lo=z.lo):=by
   intro s
   induction s with
   | nil=>intro out y hy;exact .inl ⟨y,hy,rfl⟩
   | cons a r ih=>
    intro out y hy;rcases ih _ y hy with⟨z,hz,e⟩ | ⟨z,hz,e⟩
    ·rcases xA out with rfl | ⟨q,w,rfl⟩
     ·rw[JR] at hz;simp at hz;subst hz;exact .inr ⟨z,by simp,e⟩
     ·rw[UQ] at hz
      split at hz
      ·rcases List.mem_append.1 hz with hz | hz
       ·exact .inl ⟨z,by simp[hz],e⟩
       ·simp at hz;subst hz;exact .inl ⟨w,by simp,e⟩
      ·rcases List.mem_append.1 hz with hz | hz
       ·exact .inl ⟨z,hz,e⟩
       ·simp at hz;subst hz;exact .inr ⟨z,by simp,e⟩
    ·exact .inr ⟨z,by simp[hz],e⟩
  rcases hall _ _ y hy with⟨z,hz,_⟩ | ⟨z,hz,e⟩
  ·simp at hz
  ·obtain⟨j,hj,hje⟩:=List.getElem_of_mem hz;have hlt:=(List.getElem?_eq_some_iff.1 hx).1;have hji:j < i:=by simp at hj;omega
   have:=List.pairwise_iff_getElem.1 hp j i (by omega) hlt hji;rw[List.getElem_take] at hje;have hxe:s[i]=x:=by rw[List.getElem?_eq_getElem hlt] at hx;simpa using hx
   rw[hje,hxe] at this;omega
 have h2:=zGa (body:=vZ (l.filter Yj) s) s (fun i (t:List RN)=>((i:Int),t)) qh (fun t=>pure t) (fun i t=>t=(s.take i).foldl qh []) (fun i x t hx hi hI=>by
  obtain⟨v1,v2,v3⟩:=hpre i;have v3:=v3 x hx;rw[<- hI] at v1 v2 v3;have hxm:=zt.1 (hmay x (List.mem_of_getElem? hx));have h1:decide ((i:Int) < ((l.filter Yj).length:Int))=true:=by simp;omega
  refine⟨?_,by rw[List.take_add_one,hx];simp[hI]⟩;unfold vZ;simp only[h1,cond_true,zT hx,zA,yt (show i < 9223372036854775807 by omega)];rcases xA t with rfl | ⟨q,y,rfl⟩
  ·have e:decide ((0:Int)<=IntKind.i64.wrap (((([]:List RN).length:Nat):Int) - 1))=false:=by
    rw[XZ (by simp) (by simp)];simp
   rw[e];simp only[cond_false,zA];rw[zF (by simp),JR]
   rfl
  ·have hy:=(Xm.1 v1).2.1;have hym:=zt.1 hy;have e0:IntKind.i64.wrap ((((q++[y]).length:Nat):Int) - 1)=(q.length:Int):=by
    simp only[List.length_append,List.length_singleton] at v2 ⊢;rw[XZ (by omega) (by omega)];omega
   have e1:idx (q++[y]) (q.length:Int)=pure y:=zT (by simp);have e3:decide ((0:Int)<=(q.length:Int))=true:=by simp
   rw[e0,e3];simp only[cond_true,e1,zA,Wj (show 0<=y.hi+1 by omega) (by omega)];rw[UQ]
   by_cases hc:x.lo<=y.hi+1
   ·simp only[hc,decide_true,cond_true,if_true,Int.toNat_natCast];have:(q++[y]).set q.length (⟨y.lo,max y.hi x.hi⟩:RN)=q++[⟨y.lo,max y.hi x.hi⟩]:=by simp
    rw[this]
    rfl
   ·simp only[hc,decide_false,cond_false,if_false];rw[zF (by simp only[List.length_append,List.length_singleton] at v2 ⊢;omega)]
    rfl) (fun t _=>by
  unfold vZ;have e:decide ((s.length:Int) < ((l.filter Yj).length:Int))=false:=by simp;omega
  simp only[e,cond_false,zA]) [] (by simp)
 show(M.bind (M.loop (vZ (l.filter Yj) s) (0,[])) fun out38=>M.pure out38).wp (·=nrm l);rw[show((0:Int),([]:List RN))=(((0:Nat):Int),[]) from rfl,h2];obtain⟨i1,i2,_⟩:=UR s [] trivial hmay hp (by simp);exact nrm_of i1 fun n=>by rw[i2,qg hs,zJa];simp
def wga(x y:Int):Int:=if x < y then -1 else if y < x then 1 else 0
theorem wha(x y:Int):yi x y=pure (wga x y):=by
 unfold yi wV wga;simp only[decide_true,Bool.not_true,zB,zA,cond_false,wb]
 split
 ·rfl
 ·split <;> rfl
theorem wia(x:RN)(n:Int):uY x n=pure (wga x.hi n):=by
 unfold uY;rw[wha,zB,zA]
def JS : List RN->Int->Nat
 | [],_=>0
 | x::r,n=>if x.hi < n then JS r n+1 else 0
theorem qi : ∀ {v:List RN} {n:Int} {c:Nat},c<=v.length->(∀ (k:Nat) (x:RN),k < c->v[k]?=some x->x.hi < n)->(∀ (k:Nat) (x:RN),c<=k->v[k]?=some x->n<=x.hi)->c=JS v n
 | [],n,c,h,_,_=>by simp at h;simp[JS,h]
 | x::r,n,0,_,_,h2=>by
  have:=h2 0 x (by omega) rfl;simp only[JS];rw[if_neg (by omega)]
 | x::r,n,c+1,h,h1,h2=>by
  have:=h1 0 x (by omega) rfl;simp only[JS];rw[if_pos this,<- qi (v:=r) (n:=n) (c:=c) (by simpa using h) (fun k y hk hy=>h1 (k+1) y (by omega) (by simpa using hy)) (fun k y hk hy=>h2 (k+1) y (by omega) (by simpa using hy))]
theorem wja{v:List RN}(h:Nf v):∀ {i j:Nat} {x y:RN},i < j->v[i]?=some x->v[j]?=some y->x.hi < y.hi:=by
 induction v with
 | nil=>intro i j x y _ hx;simp at hx
 | cons z r ih=>
  intro i j x y hij hx hy
  cases j with
  | zero=>omega
  | succ j=>
   have hyr:r[j]?=some y:=by simpa using hy
   have hym:=List.mem_of_getElem? hyr
   cases i with
   | zero=>
    simp at hx;subst hx;have:=h.2.1 y hym;have:=zt.1 (h.2.2.may y hym);omega
   | succ i=>exact ih h.2.2 (show i < j by omega) (by simpa using hx) hyr
theorem bs_loop(v:List RN)(n:Int)(hv:Nf v)(hl:v.length<=1000000000000):loop (zX v n) (0,(v.length:Int))=pure (JS v n:Int):=by
 refine uU (loop_inv (fun s=>∃ i j:Nat,s=((i:Int),(j:Int))/\i<=j/\j<=v.length/\(∀ (k:Nat) (x:RN),k < i->v[k]?=some x->x.hi < n)/\(∀ (k:Nat) (x:RN),j<=k->v[k]?=some x->n<=x.hi)) (fun s=>(s.2 - s.1).toNat) ?_ _ ⟨0,v.length,rfl,Nat.zero_le _,Nat.le_refl _,fun k x hk=>absurd hk (Nat.not_lt_zero _),fun k x hk hx=>absurd (List.getElem?_eq_some_iff.1 hx).1 (Nat.not_lt.2 hk)⟩);rintro _ ⟨i,j,rfl,hij,hj,h1,h2⟩;unfold zX;simp only[wb]
 by_cases hc:(i:Int) < j
 ·rw[if_pos hc];have e:IntKind.i64.wrap (Int.fdiv (IntKind.u64.wrap (IntKind.i64.wrap ((i:Int)+j))) (2 ^ 1))=(((i+j) / 2:Nat):Int):=by
   rw[XZ (n:=(i:Int)+j) (by omega) (by omega),Wj (by omega) (by omega),Int.fdiv_eq_ediv_of_nonneg _ (by decide)];have:((i:Int)+j) / 2 ^ 1=(((i+j) / 2:Nat):Int):=by omega
   rw[this,XZ (by omega) (by omega)]
  have hm:(i+j) / 2 < v.length:=by omega
  rw[e];simp only[zT (List.getElem?_eq_getElem hm),zA,wia,zB,yt (show(i+j) / 2 < 9223372036854775807 by omega)]
  by_cases hlt:v[(i+j) / 2].hi < n
  ·have:wga v[(i+j) / 2].hi n < 0:=by unfold wga;rw[if_pos hlt];decide
   rw[if_pos this];refine⟨⟨(i+j) / 2+1,j,rfl,by omega,hj,fun k x hk hx=>?_,h2⟩,?_⟩
   ·by_cases e:k=(i+j) / 2
    ·subst e;rw[List.getElem?_eq_getElem hm] at hx;cases hx;exact hlt
    ·have:=wja hv (show k < (i+j) / 2 by omega) hx (List.getElem?_eq_getElem hm);omega
   ·simp only;omega
  ·have:¬ wga v[(i+j) / 2].hi n < 0:=by unfold wga;rw[if_neg hlt];split <;> decide
   rw[if_neg this];refine⟨⟨i,(i+j) / 2,rfl,by omega,by omega,h1,fun k x hk hx=>?_⟩,?_⟩
   ·by_cases e:k=(i+j) / 2
    ·subst e;rw[List.getElem?_eq_getElem hm] at hx;cases hx;omega
    ·have:=wja hv (show(i+j) / 2 < k by omega) (List.getElem?_eq_getElem hm) hx;omega
   ·simp only;omega
 ·rw[if_neg hc];have hij':i=j:=by omega
  subst hij';show(i:Int)=(JS v n:Int)
  rw[<- qi hj h1 h2]
def hitB(v:List RN)(n:Int):Bool:=match v[JS v n]? with | some x=>decide (wga x.hi n=0) | none=>false
theorem bs_eq(v:List RN)(n:Int)(hv:Nf v)(hl:v.length<=1000000000000):zQ v n=pure ((JS v n:Int),hitB v n):=by
 unfold zQ hitB;rw[bs_loop v n hv hl,zA]
 by_cases hc:JS v n < v.length
 ·have:decide ((JS v n:Int) < (v.length:Int))=true:=by simpa using hc
  rw[this,cond_true,zT (List.getElem?_eq_getElem hc)];simp only[zA,wia,zB,List.getElem?_eq_getElem hc]
 ·have:decide ((JS v n:Int) < (v.length:Int))=false:=by simpa using hc
  rw[this,cond_false,zA,List.getElem?_eq_none (by omega)]
theorem yJa : ∀ {v:List RN} (n:Int),Nf v->xi v n=(match v[JS v n]? with | some x=>decide (x.lo<=n) | none=>false)
 | [],n,_=>rfl
 | x::r,n,h=>by
  by_cases hc:x.hi < n
  ·simp only[JS,if_pos hc,List.getElem?_cons_succ];rw[<- yJa n h.2.2,uo];have:inR n x=false:=by
    rw[Bool.eq_false_iff];intro h;have:=(vr.1 h).2.2;omega
   rw[this,Bool.false_or]
  ·simp only[JS,if_neg hc,List.getElem?_cons_zero];rw[Bool.eq_iff_iff,decide_eq_true_eq]
   constructor
   ·exact Vb h
   ·intro hle;exact(zKa h hle).2 (.inl (by omega))
theorem has_eq(l:List RN)(n:Int)(h:l.length<=100000000000):VT l n=pure (xi l n):=by
 unfold VT;have hl:=zNa l;rw[zOa l (by omega),zB,zA,bs_eq _ n (jV l) (by omega),zB,zA,<- Wn l n,yJa n (jV l)]
 generalize nrm l=v
 by_cases hc:JS v n < v.length
 ·have:decide ((JS v n:Int) < (v.length:Int))=true:=by simpa using hc
  simp only[this,cond_true,zT (List.getElem?_eq_getElem hc),zA,List.getElem?_eq_getElem hc]
 ·have:decide ((JS v n:Int) < (v.length:Int))=false:=by simpa using hc
  simp only[this,cond_false,zA,List.getElem?_eq_none (show v.length<=JS v n by omega)]
end Go.Ep.M.R
