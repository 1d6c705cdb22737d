/- Side texts. -/
import Derived.Test.YtnejkopjonigeaaGreatAHp2
import Derived.Test.YtnejkopjonigeaaGreatAHp3
import Derived.Test.YtnejkopjonigeaaGreatAHp4
import Derived.Test.YtnejkopjonigeaaGreatAHp5
import Derived.Test.YtnejkopjonigeaaGreatAHp6
import Derived.Test.YtnejkopjonigeaaGreatAHp8
import Derived.Test.YtnejkopjonigeaaGreatAHp9
set_option linter.unusedVariables false
set_option linter.unusedSimpArgs false
namespace Go.Proofs
open Go.Ep Tryz
set_option maxHeartbeats 1000000
set_option maxRecDepth 100000
set_option linter.unusedVariables false
set_option linter.unusedSimpArgs false
theorem xva(c1:List PT)(d2:DT)(r0:Bool)(h:(Jk c1 d2).wp (·=r0)):PFun prog 145 [.d (.sl (List.map PT.e c1)),.agg (List.map .d (DT.e d2))] (.d (.v (.bool r0))):=by
 refine fI (sl:=[(0,_),(1,_)]) func145 rfl ntmps145 rfl rfl ?_;intro ctx hK;(iterate 6 refine g5 ?_);refine wJ (zG h) (fun(v3:Bool) (_:Unit)=>⟨16,[(4,.d (.v (.bool v3)))],[]⟩) (fun h=>?_) ?_
 ·refine g5 ?_;refine h5 ?_;obtain⟨v4,hy5,h⟩:=zL h;refine qs (fun _ U W=>cN (ud d2 v4 hy5) U call140 (wb (fun a b=>U a b) rfl rfl) rfl rfl rfl) ?_;refine h5 ?_;refine xQ (d:=7) h rfl (fun _ h=>?_) (fun _ h=>?_)
  ·(iterate 3 refine h5 ?_);obtain⟨v7,hy8,h⟩:=zL h;refine qt (fun _ U W=>cN (Xx c1 d2.dev v7 hy8) U call148 (wb (fun a b=>U a b) rfl rfl) rfl rfl rfl) ?_;(iterate 2 refine h5 ?_);obtain⟨v9,hy10,h⟩:=zL h;refine qt (fun _ U W=>cN (VM v7 d2.n v9 hy10) U call181 (wb (fun a b=>U a b) rfl rfl) rfl rfl rfl) ?_;(iterate 3 refine h5 ?_);exact⟨v9,(),h,sP⟩
  ·(iterate 10 refine h5 ?_);exact⟨false,(),h,sP⟩
 ·rintro v3 _ h;refine wX ?_;cases h;exact xT
theorem zwa(l1:List DT)(c2:List PT)(r0:List DT)(h:(UF l1 c2).wp (·=r0)):PFun prog 103 [.d (.sl (List.map DT.e l1)),.d (.sl (List.map PT.e c2))] (.d (.sl (List.map DT.e r0))):=by
 refine fI (sl:=[(0,_),(1,_)]) func103 rfl ntmps103 rfl rfl ?_;intro ctx hK;(iterate 2 refine g5 ?_);refine ws (aR 101 2 rfl) ?_;(iterate 3 refine g5 ?_);refine ws (aR 101 2 rfl) ?_;(iterate 6 refine g5 ?_);refine wJ (zG h) (fun(out3:List DT) (_:Unit)=>⟨27,[(5,.d (.sl (List.map DT.e out3)))],[]⟩) (fun h=>?_) ?_
 ·refine g5 ?_;refine wM (fun(⟨out28,i29⟩:List DT×Int) (_:Unit)=>⟨27,[(0,.d (.sl (List.map DT.e l1))),(1,.d (.sl (List.map PT.e c2))),(5,.d (.sl (List.map DT.e out28))),(6,.d (.v (.int .i64 i29)))],[]⟩) () h (Sub.trans (Sub.frz [5] hK rfl (by first | (simp;done) | (simp;omega) | omega) (AllRow.get (.cons rfl<|.nil)))<|sP) ?_;rintro N ⟨out28,i29⟩ _ h;(iterate 8 refine g5 ?_);refine xD h rfl (fun _ h=>?_) (fun _ h=>?_)
  ·(iterate 2 refine g5 ?_);refine wJ (zG h) (fun(out31:List DT) (_:Unit)=>⟨27,[(0,.d (.sl (List.map DT.e l1))),(1,.d (.sl (List.map PT.e c2))),(5,.d (.sl (List.map DT.e out31))),(6,.d (.v (.int .i64 i29)))],[]⟩) (fun h=>?_) ?_
   ·(iterate 6 refine g5 ?_);obtain⟨x32,hy33,h⟩:=zk h;refine ws (iX (enc:=DT.e) (L:=l1) (y:=x32) underlying102 sizeOf101 rfl rfl hy33 (fun _=>rfl)) ?_;refine g5 ?_;obtain⟨v34,hy35,h⟩:=zL h;refine xN (xva c2 x32 v34 hy35) call145 ?_;(iterate 2 refine g5 ?_);refine xD h rfl (fun _ h=>?_) (fun _ h=>?_)
    ·(iterate 4 refine g5 ?_);obtain⟨x37,hy38,h⟩:=zk h;refine ws (iX (enc:=DT.e) (L:=l1) (y:=x37) underlying102 sizeOf101 rfl rfl hy38 (fun _=>rfl)) ?_;refine g5 ?_;obtain⟨v39,hy40,h⟩:=zL h;refine ws (LR.rowN (uH out28 x37 v39 hy40) rfl call146 rfl rfl rfl rfl)<|wy (tl:=[(0,_),(1,_),(5,_),(6,_),(25,_)]) (to:=[(25,_)]) ?_;(iterate 2 refine g5 ?_);exact⟨v39,(),h,Sub.trans (Sub.frz [5,25] hK rfl (by simp) (AllRow.get (.cons rfl<|.cons rfl<|.nil)))<|sP⟩
    ·refine g5 ?_;exact⟨out28,(),h,sP⟩
   ·rintro out31 _ h;(iterate 5 refine g5 ?_);exact⟨(out31,(IntKind.i64.wrap (i29+1))),(),h,sP⟩
  ·refine wZ ?_;exact⟨out28,(),h,sP⟩
 ·rintro out3 _ h;(iterate 5 refine g5 ?_);refine wX ?_;cases h;exact xT
theorem zxa(l1:List EV)(r0:List DT)(h:(UG l1).wp (·=r0)):PFun prog 104 [.d (.sl (List.map EV.e l1))] (.d (.sl (List.map DT.e r0))):=by
 refine fI (sl:=[(0,_)]) func104 rfl ntmps104 rfl rfl ?_;intro ctx hK;(iterate 2 refine g5 ?_);refine ws (aR 101 2 rfl) ?_;(iterate 3 refine g5 ?_);refine ws (aR 101 2 rfl) ?_;(iterate 6 refine g5 ?_);refine wJ (zG h) (fun(out2:List DT) (_:Unit)=>⟨40,[(3,.d (.sl (List.map DT.e out2)))],[]⟩) (fun h=>?_) ?_
 ·refine g5 ?_;refine wM (fun(⟨out79,i80⟩:List DT×Int) (_:Unit)=>⟨40,[(0,.d (.sl (List.map EV.e l1))),(3,.d (.sl (List.map DT.e out79))),(4,.d (.v (.int .i64 i80)))],[]⟩) () h (Sub.trans (Sub.frz [3] hK rfl (by first | (simp;done) | (simp;omega) | omega) (AllRow.get (.cons rfl<|.nil)))<|sP) ?_;rintro N ⟨out79,i80⟩ _ h;(iterate 8 refine g5 ?_);refine xD h rfl (fun _ h=>?_) (fun _ h=>?_)
  ·(iterate 2 refine g5 ?_);refine wJ (zG h) (fun(out82:List DT) (_:Unit)=>⟨40,[(0,.d (.sl (List.map EV.e l1))),(3,.d (.sl (List.map DT.e out82))),(4,.d (.v (.int .i64 i80)))],[]⟩) (fun h=>?_) ?_
   ·(iterate 6 refine g5 ?_);obtain⟨x83,hy84,h⟩:=zk h;refine ws (iX (enc:=EV.e) (L:=l1) (y:=x83) underlying29 sizeOf104 rfl rfl hy84 (fun _=>rfl)) ?_;(iterate 2 refine g5 ?_);obtain⟨v85,hy86,h⟩:=zL h;refine ws (LR.rowN (uH out79 x83.dot v85 hy86) rfl call146 rfl rfl rfl rfl) ?_;(iterate 7 refine g5 ?_);refine wM (fun(⟨out107,k108⟩:List DT×Int) (_:Unit)=>⟨40,[(0,.d (.sl (List.map EV.e l1))),(3,.d (.sl (List.map DT.e out107))),(4,.d (.v (.int .i64 i80))),(5,.d (.v (.int .i64 k108)))],[]⟩) () h (Sub.trans (Sub.frz [3,18] hK rfl (by simp) (AllRow.get (.cons rfl<|.cons rfl<|.nil)))<|sP) ?_;rintro N ⟨out107,k108⟩ _ h;(iterate 6 refine g5 ?_);obtain⟨x109,hy110,h⟩:=zk h;refine ws (iX (enc:=EV.e) (L:=l1) (y:=x109) underlying29 sizeOf104 rfl rfl hy110 (fun _=>rfl)) ?_;(iterate 5 refine g5 ?_);refine xD h rfl (fun _ h=>?_) (fun _ h=>?_)
    ·(iterate 7 refine g5 ?_);obtain⟨x112,hy113,h⟩:=zk h;refine ws (iX (enc:=EV.e) (L:=l1) (y:=x112) underlying29 sizeOf104 rfl rfl hy113 (fun _=>rfl)) ?_;(iterate 3 refine g5 ?_);obtain⟨x114,hy115,h⟩:=zk h;refine ws (iX (enc:=DT.e) (L:=x112.kills) (y:=x114) underlying102 sizeOf101 rfl rfl hy115 (fun _=>rfl)) ?_;refine g5 ?_;refine wy (tl:=[(0,_),(3,_),(4,_),(5,_),(29,_),(37,_)]) (to:=[]) ?_;obtain⟨v116,hy117,h⟩:=zL h;refine ws (LR.rowN (uH out107 x114 v116 hy117) rfl call146 rfl rfl rfl rfl) ?_;(iterate 7 refine g5 ?_);exact⟨(v116,(IntKind.i64.wrap (k108+1))),(),h,Sub.trans (Sub.frz [3,38] hK rfl (by simp) (AllRow.get (.cons rfl<|.cons rfl<|.nil)))<|sP⟩
    ·refine wZ ?_;exact⟨out107,(),h,sP⟩
   ·rintro out82 _ h;(iterate 5 refine g5 ?_);exact⟨(out82,(IntKind.i64.wrap (i80+1))),(),h,sP⟩
  ·refine wZ ?_;exact⟨out79,(),h,sP⟩
 ·rintro out2 _ h;(iterate 5 refine g5 ?_);refine wX ?_;cases h;exact xT
theorem zya(c1:List PT)(l2:List EV)(r0:Bool)(h:(UH c1 l2).wp (·=r0)):PFun prog 62 [.d (.sl (List.map PT.e c1)),.d (.sl (List.map EV.e l2))] (.d (.v (.bool r0))):=by
 refine fI (sl:=[(0,_),(1,_)]) func62 rfl ntmps62 rfl rfl ?_;intro ctx hK;(iterate 9 refine g5 ?_);refine PWc.jnX (zG h) (fun(_:Unit) (_:Unit)=>⟨64,[(0,.d (.sl (List.map PT.e c1))),(1,.d (.sl (List.map EV.e l2)))],[]⟩) (fun h=>?_) ?_
 ·refine g5 ?_;refine wM (fun(i_64:Int) (_:Unit)=>⟨64,[(0,.d (.sl (List.map PT.e c1))),(1,.d (.sl (List.map EV.e l2))),(5,.d (.v (.int .i64 i_64)))],[]⟩) () h (sP) ?_;rintro N i_64 _ h;(iterate 8 refine g5 ?_);refine xD h rfl (fun _ h=>?_) (fun _ h=>?_)
  ·(iterate 4 refine g5 ?_);refine wJ (zG h) (fun(v66:Bool) (_:Unit)=>⟨64,[(0,.d (.sl (List.map PT.e c1))),(1,.d (.sl (List.map EV.e l2))),(5,.d (.v (.int .i64 i_64))),(53,.d (.v (.bool v66)))],[]⟩) (fun h=>?_) ?_
   ·refine g5 ?_;(iterate 2 refine h5 ?_);obtain⟨x67,hy68,h⟩:=zk h;refine qs (fun _ U W=>iX (enc:=EV.e) (L:=l2) (y:=x67) underlying29 sizeOf104 U U hy68 (fun _=>rfl)) ?_;refine h5 ?_;obtain⟨v69,hy70,h⟩:=zL h;refine qs (fun _ U W=>cN (zva x67 v69 hy70) U call101 (wb (fun a b=>U a b) rfl rfl) rfl rfl rfl) ?_;(iterate 2 refine h5 ?_);refine xQ (d:=18) h rfl (fun _ h=>?_) (fun _ h=>?_)
    ·(iterate 22 refine h5 ?_);refine kK (tl:=[(0,_),(1,_),(5,_),(19,_),(20,_),(21,_),(22,_),(23,_),(24,_),(25,_),(26,_),(27,_),(28,_),(29,_),(30,_),(31,_),(32,_),(33,_),(34,_),(35,_),(37,_),(38,_),(39,_),(40,_)]) ?_;(iterate 14 refine h5 ?_);exact⟨true,(),h,sP⟩
    ·(iterate 3 refine h5 ?_);refine xQ (d:=21) h rfl (fun _ h=>?_) (fun _ h=>?_)
     ·(iterate 3 refine h5 ?_);obtain⟨x73,hy74,h⟩:=zk h;refine qt (fun _ U W=>iX (enc:=EV.e) (L:=l2) (y:=x73) underlying29 sizeOf104 U U hy74 (fun _=>rfl)) ?_;(iterate 4 refine h5 ?_);obtain⟨x75,hy76,h⟩:=zk h;refine qt (fun _ U W=>iX (enc:=EV.e) (L:=l2) (y:=x75) underlying29 sizeOf104 U U hy76 (fun _=>rfl)) ?_;(iterate 2 refine h5 ?_);obtain⟨v77,hy78,h⟩:=zL h;refine qt (fun _ U W=>cN (XV x73.dot x75.dot v77 hy78) U call80 (wb (fun a b=>U a b) rfl rfl) rfl rfl rfl) ?_;(iterate 4 refine h5 ?_);refine xQ (d:=37) h rfl (fun _ h=>?_) (fun _ h=>?_)
      ·refine h5 ?_;refine kK (tl:=[(0,_),(1,_),(5,_),(19,_),(20,_),(21,_),(22,_),(23,_),(24,_),(25,_),(26,_),(27,_),(28,_),(29,_),(30,_),(31,_),(32,_),(33,_),(34,_),(35,_),(37,_),(38,_)]) ?_;(iterate 16 refine h5 ?_);exact⟨true,(),h,sP⟩
      ·refine h5 ?_;refine kK (tl:=[(0,_),(1,_),(5,_),(19,_),(20,_),(21,_),(22,_),(23,_),(24,_),(25,_),(26,_),(27,_),(28,_),(29,_),(30,_),(31,_),(32,_),(33,_),(34,_),(35,_),(37,_),(38,_)]) ?_;refine h5 ?_;obtain⟨x80,hy81,h⟩:=zk h;refine qt (fun _ U W=>iX (enc:=EV.e) (L:=l2) (y:=x80) underlying29 sizeOf104 U U hy81 (fun _=>rfl)) ?_;(iterate 4 refine h5 ?_);refine xQ (d:=44) h rfl (fun _ h=>?_) (fun _ h=>?_)
       ·(iterate 3 refine h5 ?_);obtain⟨x83,hy84,h⟩:=zk h;refine qt (fun _ U W=>iX (enc:=EV.e) (L:=l2) (y:=x83) underlying29 sizeOf104 U U hy84 (fun _=>rfl)) ?_;(iterate 2 refine h5 ?_);obtain⟨v85,hy86,h⟩:=zL h;refine qt (fun _ U W=>cN (Uz l2 x83.dot v85 hy86) U call102 (wb (fun a b=>U a b) rfl rfl) rfl rfl rfl) ?_;(iterate 3 refine h5 ?_);exact⟨v85,(),h,sP⟩
       ·(iterate 10 refine h5 ?_);exact⟨false,(),h,sP⟩
     ·(iterate 18 refine h5 ?_);refine kK (tl:=[(0,_),(1,_),(5,_),(19,_),(20,_),(21,_),(22,_),(23,_),(24,_),(25,_),(26,_),(27,_),(28,_),(29,_),(30,_),(31,_),(32,_),(33,_),(34,_),(35,_),(37,_),(38,_),(39,_)]) ?_;obtain⟨x87,hy88,h⟩:=zk h;refine qt (fun _ U W=>iX (enc:=EV.e) (L:=l2) (y:=x87) underlying29 sizeOf104 U U hy88 (fun _=>rfl)) ?_;(iterate 4 refine h5 ?_);refine xQ (d:=44) h rfl (fun _ h=>?_) (fun _ h=>?_)
      ·(iterate 3 refine h5 ?_);obtain⟨x90,hy91,h⟩:=zk h;refine qt (fun _ U W=>iX (enc:=EV.e) (L:=l2) (y:=x90) underlying29 sizeOf104 U U hy91 (fun _=>rfl)) ?_;(iterate 2 refine h5 ?_);obtain⟨v92,hy93,h⟩:=zL h;refine qt (fun _ U W=>cN (Uz l2 x90.dot v92 hy93) U call102 (wb (fun a b=>U a b) rfl rfl) rfl rfl rfl) ?_;(iterate 3 refine h5 ?_);exact⟨v92,(),h,sP⟩
      ·(iterate 10 refine h5 ?_);exact⟨false,(),h,sP⟩
   ·rintro v66 _ h;refine xD h rfl (fun _ h=>?_) (fun _ h=>?_)
    ·(iterate 4 refine g5 ?_);refine wX ?_;cases h;exact xT
    ·(iterate 6 refine g5 ?_);exact⟨(IntKind.i64.wrap (i_64+1)),(),h,sP⟩
  ·refine wZ ?_;exact⟨(),(),h,sP⟩
 ·rintro _ _ h;refine g5 ?_;refine wJ (zG h) (fun(v95:Bool) (_:Unit)=>⟨64,[(4,.d (.v (.bool v95)))],[]⟩) (fun h=>?_) ?_
  ·(iterate 2 refine g5 ?_);obtain⟨v96,hy97,h⟩:=zL h;refine xN (Uy c1 v96 hy97) call63 ?_;refine g5 ?_;refine xG (d:=56) h rfl (fun _ h=>?_) (fun _ h=>?_)
   ·refine g5 ?_;obtain⟨v99,hy100,h⟩:=zL h;refine wt (cN (zxa l2 v99 hy100) rfl call104 rfl rfl rfl rfl) ?_;refine g5 ?_;obtain⟨v101,hy102,h⟩:=zL h;refine wt (cN (zwa v99 c1 v101 hy102) rfl call103 rfl rfl rfl rfl) ?_;(iterate 5 refine g5 ?_);exact⟨(decide ((v101.length:Int)=0)),(),h,sP⟩
   ·(iterate 9 refine g5 ?_);exact⟨false,(),h,sP⟩
  ·rintro v95 _ h;refine wX ?_;cases h;exact xT
theorem zza(s1:THubState)(r0:R33Center×Bool)(h:(UI s1).wp (·=r0)):PFun prog 24 [.agg (List.map .d (THubState.e s1))] (.tup [.agg (List.map .d (R33Center.e r0.1)),.d (.v (.bool r0.2))]):=by
 refine fI (sl:=[(0,_)]) func24 rfl ntmps24 rfl rfl ?_;intro ctx hK;(iterate 8 refine g5 ?_);refine wJ (zG h) (fun(v2:Bool) (_:Unit)=>⟨113,[(1,.ref 1 0),(2,.ref 2 0),(33,.d (.v (.bool v2)))],[(1,.cells 31 [.d (.v (.int .u64 s1.epoch)),.d (.v (.int .u16 s1.last)),.d (.sl (List.map TMember.e s1.members)),.d (.sl (List.map (eK .u64) s1.tries)),.d (.sl (List.map TRow.e s1.rows)),.d (.sl (List.map PT.e s1.ctx)),.d (.sl (List.map EV.e s1.all))]),(2,.cells 72 [.d (.v (.int .u64 0)),.d (.v (.int .u16 0)),.d (.sl (List.map TMember.e ([]:List TMember))),.d (.v (.int .u64 0)),.d (.v (.int .u64 0)),.d (.v (.int .u64 0)),.d (.v (.int .u64 0)),.d (.v (.int .u64 0)),.d (.v (.int .u64 0)),.d (.v (.int .u64 0)),.d (.v (.int .u64 0)),.d (.v (.int .u64 0)),.d (.v (.int .u64 0)),.d (.v (.int .u64 0)),.d (.v (.int .u64 0)),.d (.v (.int .u64 0)),.d (.v (.int .u64 0)),.d (.v (.int .u64 0)),.d (.v (.int .u64 0)),.d (.sl (List.map R25Row.e ([]:List R25Row))),.d (.sl (List.map PT.e ([]:List PT))),.d (.sl (List.map EV.e ([]:List EV)))])]⟩) (fun h=>?_) ?_
 ·(iterate 9 refine g5 ?_);obtain⟨v3,hy4,h⟩:=zL h;refine xN (zqa s1.epoch s1.last s1.members s1.tries v3 hy4) call61 ?_;(iterate 2 refine g5 ?_);refine xG (d:=17) h rfl (fun _ h=>?_) (fun _ h=>?_)
  ·(iterate 5 refine g5 ?_);refine wy (tl:=[(1,_),(2,_),(17,_),(22,_)]) (to:=[(1,_),(2,_)]) ?_;(iterate 12 refine g5 ?_);exact⟨true,(),h,sP⟩
  ·(iterate 4 refine g5 ?_);obtain⟨v6,hy7,h⟩:=zL h;refine wt (cN (zya s1.ctx s1.all v6 hy7) rfl call62 rfl rfl rfl rfl)<|wy (tl:=[(1,_),(2,_),(17,_),(22,_)]) (to:=[(1,_),(2,_)]) ?_;(iterate 3 refine g5 ?_);refine xG (d:=25) h rfl (fun _ h=>?_) (fun _ h=>?_)
   ·(iterate 9 refine g5 ?_);exact⟨true,(),h,sP⟩
   ·(iterate 9 refine g5 ?_);exact⟨(!decide ((s1.rows.length:Int)=(s1.members.length:Int))),(),h,sP⟩
 ·rintro v2 _ h;refine xD h rfl (fun _ h=>?_) (fun _ h=>?_)
  ·(iterate 2 refine g5 ?_);refine ws (LR.build (ns:=[_,_,_,_,_,_,_,_,_,_,_,_,_,_,_,_,_,_,_,_,_,_]) zea rfl rfl rfl) ?_;(iterate 3 refine g5 ?_);refine wX ?_;cases h;exact⟨.inr rfl,_,.cons (.agg isAgg72 sizeOf72 rfl rfl rfl rfl)<|.cons (.tmp rfl rfl)<|.nil,rfl⟩
  ·(iterate 9 refine g5 ?_);refine ws (LR.build (ns:=[_,_,_,_,_,_,_,_,_,_,_,_,_,_,_,_,_,_,_]) build67 rfl rfl rfl) ?_;(iterate 4 refine g5 ?_);refine ws (LR.build (ns:=[_,_]) build70 rfl rfl rfl)<|ws (LR.build (ns:=[_,_,_,_,_,_,_,_,_,_,_,_,_,_,_,_,_,_,_,_,_,_]) zea rfl rfl rfl) ?_;(iterate 8 refine g5 ?_);refine wJ (zG h) (fun(ar10:A16) (_:Unit)=>⟨113,[(1,.ref 1 0),(2,.ref 2 0),(4,.ref 4 0)],[(1,.cells 31 [.d (.v (.int .u64 s1.epoch)),.d (.v (.int .u16 s1.last)),.d (.sl (List.map TMember.e s1.members)),.d (.sl (List.map (eK .u64) s1.tries)),.d (.sl (List.map TRow.e s1.rows)),.d (.sl (List.map PT.e s1.ctx)),.d (.sl (List.map EV.e s1.all))]),(2,.cells 72 [.d (.v (.int .u64 0)),.d (.v (.int .u16 0)),.d (.sl (List.map TMember.e ([]:List TMember))),.d (.v (.int .u64 0)),.d (.v (.int .u64 0)),.d (.v (.int .u64 0)),.d (.v (.int .u64 0)),.d (.v (.int .u64 0)),.d (.v (.int .u64 0)),.d (.v (.int .u64 0)),.d (.v (.int .u64 0)),.d (.v (.int .u64 0)),.d (.v (.int .u64 0)),.d (.v (.int .u64 0)),.d (.v (.int .u64 0)),.d (.v (.int .u64 0)),.d (.v (.int .u64 0)),.d (.v (.int .u64 0)),.d (.v (.int .u64 0)),.d (.sl (List.map R25Row.e ([]:List R25Row))),.d (.sl (List.map PT.e ([]:List PT))),.d (.sl (List.map EV.e ([]:List EV)))]),(4,.cells 72 [.d (.v (.int .u64 s1.epoch)),.d (.v (.int .u16 s1.last)),.d (.sl (List.map TMember.e s1.members)),.d (.v (.int .u64 ar10.1)),.d (.v (.int .u64 ar10.2.1)),.d (.v (.int .u64 ar10.2.2.1)),.d (.v (.int .u64 ar10.2.2.2.1)),.d (.v (.int .u64 ar10.2.2.2.2.1)),.d (.v (.int .u64 ar10.2.2.2.2.2.1)),.d (.v (.int .u64 ar10.2.2.2.2.2.2.1)),.d (.v (.int .u64 ar10.2.2.2.2.2.2.2.1)),.d (.v (.int .u64 ar10.2.2.2.2.2.2.2.2.1)),.d (.v (.int .u64 ar10.2.2.2.2.2.2.2.2.2.1)),.d (.v (.int .u64 ar10.2.2.2.2.2.2.2.2.2.2.1)),.d (.v (.int .u64 ar10.2.2.2.2.2.2.2.2.2.2.2.1)),.d (.v (.int .u64 ar10.2.2.2.2.2.2.2.2.2.2.2.2.1)),.d (.v (.int .u64 ar10.2.2.2.2.2.2.2.2.2.2.2.2.2.1)),.d (.v (.int .u64 ar10.2.2.2.2.2.2.2.2.2.2.2.2.2.2.1)),.d (.v (.int .u64 ar10.2.2.2.2.2.2.2.2.2.2.2.2.2.2.2)),.d (.sl (List.map R25Row.e ([]:List R25Row))),.d (.sl (List.map PT.e s1.ctx)),.d (.sl (List.map EV.e s1.all))])]⟩) (fun h=>?_) ?_
   ·refine g5 ?_;refine wM (fun(⟨i21,ar22⟩:Int×A16) (_:Unit)=>⟨113,[(1,.ref 1 0),(2,.ref 2 0),(4,.ref 4 0),(5,.d (.v (.int .i64 i21)))],[(1,.cells 31 [.d (.v (.int .u64 s1.epoch)),.d (.v (.int .u16 s1.last)),.d (.sl (List.map TMember.e s1.members)),.d (.sl (List.map (eK .u64) s1.tries)),.d (.sl (List.map TRow.e s1.rows)),.d (.sl (List.map PT.e s1.ctx)),.d (.sl (List.map EV.e s1.all))]),(2,.cells 72 [.d (.v (.int .u64 0)),.d (.v (.int .u16 0)),.d (.sl (List.map TMember.e ([]:List TMember))),.d (.v (.int .u64 0)),.d (.v (.int .u64 0)),.d (.v (.int .u64 0)),.d (.v (.int .u64 0)),.d (.v (.int .u64 0)),.d (.v (.int .u64 0)),.d (.v (.int .u64 0)),.d (.v (.int .u64 0)),.d (.v (.int .u64 0)),.d (.v (.int .u64 0)),.d (.v (.int .u64 0)),.d (.v (.int .u64 0)),.d (.v (.int .u64 0)),.d (.v (.int .u64 0)),.d (.v (.int .u64 0)),.d (.v (.int .u64 0)),.d (.sl (List.map R25Row.e ([]:List R25Row))),.d (.sl (List.map PT.e ([]:List PT))),.d (.sl (List.map EV.e ([]:List EV)))]),(4,.cells 72 [.d (.v (.int .u64 s1.epoch)),.d (.v (.int .u16 s1.last)),.d (.sl (List.map TMember.e s1.members)),.d (.v (.int .u64 ar22.1)),.d (.v (.int .u64 ar22.2.1)),.d (.v (.int .u64 ar22.2.2.1)),.d (.v (.int .u64 ar22.2.2.2.1)),.d (.v (.int .u64 ar22.2.2.2.2.1)),.d (.v (.int .u64 ar22.2.2.2.2.2.1)),.d (.v (.int .u64 ar22.2.2.2.2.2.2.1)),.d (.v (.int .u64 ar22.2.2.2.2.2.2.2.1)),.d (.v (.int .u64 ar22.2.2.2.2.2.2.2.2.1)),.d (.v (.int .u64 ar22.2.2.2.2.2.2.2.2.2.1)),.d (.v (.int .u64 ar22.2.2.2.2.2.2.2.2.2.2.1)),.d (.v (.int .u64 ar22.2.2.2.2.2.2.2.2.2.2.2.1)),.d (.v (.int .u64 ar22.2.2.2.2.2.2.2.2.2.2.2.2.1)),.d (.v (.int .u64 ar22.2.2.2.2.2.2.2.2.2.2.2.2.2.1)),.d (.v (.int .u64 ar22.2.2.2.2.2.2.2.2.2.2.2.2.2.2.1)),.d (.v (.int .u64 ar22.2.2.2.2.2.2.2.2.2.2.2.2.2.2.2)),.d (.sl (List.map R25Row.e ([]:List R25Row))),.d (.sl (List.map PT.e s1.ctx)),.d (.sl (List.map EV.e s1.all))])]⟩) () h (sP) ?_;rintro N ⟨i21,ar22⟩ _ h;(iterate 6 refine g5 ?_);refine xD h rfl (fun _ h=>?_) (fun _ h=>?_)
    ·(iterate 8 refine g5 ?_);obtain⟨x24,hy25,h⟩:=zk h;refine ws (iX (enc:=(eK .u64)) (L:=s1.tries) (y:=x24) underlying25 sizeOf22 rfl rfl hy25 (fun _=>rfl)) ?_;(iterate 3 refine g5 ?_);obtain⟨hy26,h⟩:=zr h;refine ws (LR.idxArr underlying65 rfl sizeOf22 rfl rfl hy26)<|ws (LR.storeArr (ns:=[_,_,_,_,_,_,_,_,_,_,_,_,_,_,_,_,_,_,_,_,_,_]) .u64 ar22 sizeOf22 rfl rfl rfl hy26 rfl rfl) ?_;(iterate 6 refine g5 ?_);exact⟨((IntKind.i64.wrap (i21+1)),(AR.set ar22 (Int.toNat i21) x24)),(),h,sP⟩
    ·refine wZ ?_;exact⟨ar22,(),h,sP⟩
   ·rintro ar10 _ h;(iterate 5 refine g5 ?_);refine PWc.jnX (zG h) (fun(c27:List R25Row) (_:Unit)=>⟨113,[(2,.ref 2 0),(4,.ref 4 0)],[(2,.cells 72 [.d (.v (.int .u64 0)),.d (.v (.int .u16 0)),.d (.sl (List.map TMember.e ([]:List TMember))),.d (.v (.int .u64 0)),.d (.v (.int .u64 0)),.d (.v (.int .u64 0)),.d (.v (.int .u64 0)),.d (.v (.int .u64 0)),.d (.v (.int .u64 0)),.d (.v (.int .u64 0)),.d (.v (.int .u64 0)),.d (.v (.int .u64 0)),.d (.v (.int .u64 0)),.d (.v (.int .u64 0)),.d (.v (.int .u64 0)),.d (.v (.int .u64 0)),.d (.v (.int .u64 0)),.d (.v (.int .u64 0)),.d (.v (.int .u64 0)),.d (.sl (List.map R25Row.e ([]:List R25Row))),.d (.sl (List.map PT.e ([]:List PT))),.d (.sl (List.map EV.e ([]:List EV)))]),(4,.cells 72 [.d (.v (.int .u64 s1.epoch)),.d (.v (.int .u16 s1.last)),.d (.sl (List.map TMember.e s1.members)),.d (.v (.int .u64 ar10.1)),.d (.v (.int .u64 ar10.2.1)),.d (.v (.int .u64 ar10.2.2.1)),.d (.v (.int .u64 ar10.2.2.2.1)),.d (.v (.int .u64 ar10.2.2.2.2.1)),.d (.v (.int .u64 ar10.2.2.2.2.2.1)),.d (.v (.int .u64 ar10.2.2.2.2.2.2.1)),.d (.v (.int .u64 ar10.2.2.2.2.2.2.2.1)),.d (.v (.int .u64 ar10.2.2.2.2.2.2.2.2.1)),.d (.v (.int .u64 ar10.2.2.2.2.2.2.2.2.2.1)),.d (.v (.int .u64 ar10.2.2.2.2.2.2.2.2.2.2.1)),.d (.v (.int .u64 ar10.2.2.2.2.2.2.2.2.2.2.2.1)),.d (.v (.int .u64 ar10.2.2.2.2.2.2.2.2.2.2.2.2.1)),.d (.v (.int .u64 ar10.2.2.2.2.2.2.2.2.2.2.2.2.2.1)),.d (.v (.int .u64 ar10.2.2.2.2.2.2.2.2.2.2.2.2.2.2.1)),.d (.v (.int .u64 ar10.2.2.2.2.2.2.2.2.2.2.2.2.2.2.2)),.d (.sl (List.map R25Row.e c27)),.d (.sl (List.map PT.e s1.ctx)),.d (.sl (List.map EV.e s1.all))])]⟩) (fun h=>?_) ?_
    ·refine g5 ?_;refine wM (fun(⟨i66,c67⟩:Int×List R25Row) (_:Unit)=>⟨113,[(1,.ref 1 0),(2,.ref 2 0),(4,.ref 4 0),(6,.d (.v (.int .i64 i66)))],[(1,.cells 31 [.d (.v (.int .u64 s1.epoch)),.d (.v (.int .u16 s1.last)),.d (.sl (List.map TMember.e s1.members)),.d (.sl (List.map (eK .u64) s1.tries)),.d (.sl (List.map TRow.e s1.rows)),.d (.sl (List.map PT.e s1.ctx)),.d (.sl (List.map EV.e s1.all))]),(2,.cells 72 [.d (.v (.int .u64 0)),.d (.v (.int .u16 0)),.d (.sl (List.map TMember.e ([]:List TMember))),.d (.v (.int .u64 0)),.d (.v (.int .u64 0)),.d (.v (.int .u64 0)),.d (.v (.int .u64 0)),.d (.v (.int .u64 0)),.d (.v (.int .u64 0)),.d (.v (.int .u64 0)),.d (.v (.int .u64 0)),.d (.v (.int .u64 0)),.d (.v (.int .u64 0)),.d (.v (.int .u64 0)),.d (.v (.int .u64 0)),.d (.v (.int .u64 0)),.d (.v (.int .u64 0)),.d (.v (.int .u64 0)),.d (.v (.int .u64 0)),.d (.sl (List.map R25Row.e ([]:List R25Row))),.d (.sl (List.map PT.e ([]:List PT))),.d (.sl (List.map EV.e ([]:List EV)))]),(4,.cells 72 [.d (.v (.int .u64 s1.epoch)),.d (.v (.int .u16 s1.last)),.d (.sl (List.map TMember.e s1.members)),.d (.v (.int .u64 ar10.1)),.d (.v (.int .u64 ar10.2.1)),.d (.v (.int .u64 ar10.2.2.1)),.d (.v (.int .u64 ar10.2.2.2.1)),.d (.v (.int .u64 ar10.2.2.2.2.1)),.d (.v (.int .u64 ar10.2.2.2.2.2.1)),.d (.v (.int .u64 ar10.2.2.2.2.2.2.1)),.d (.v (.int .u64 ar10.2.2.2.2.2.2.2.1)),.d (.v (.int .u64 ar10.2.2.2.2.2.2.2.2.1)),.d (.v (.int .u64 ar10.2.2.2.2.2.2.2.2.2.1)),.d (.v (.int .u64 ar10.2.2.2.2.2.2.2.2.2.2.1)),.d (.v (.int .u64 ar10.2.2.2.2.2.2.2.2.2.2.2.1)),.d (.v (.int .u64 ar10.2.2.2.2.2.2.2.2.2.2.2.2.1)),.d (.v (.int .u64 ar10.2.2.2.2.2.2.2.2.2.2.2.2.2.1)),.d (.v (.int .u64 ar10.2.2.2.2.2.2.2.2.2.2.2.2.2.2.1)),.d (.v (.int .u64 ar10.2.2.2.2.2.2.2.2.2.2.2.2.2.2.2)),.d (.sl (List.map R25Row.e c67)),.d (.sl (List.map PT.e s1.ctx)),.d (.sl (List.map EV.e s1.all))])]⟩) () h (sP) ?_;rintro N ⟨i66,c67⟩ _ h;(iterate 9 refine g5 ?_);refine xD h rfl (fun _ h=>?_) (fun _ h=>?_)
     ·(iterate 5 refine g5 ?_);refine wJ (zG h) (fun(v69:Bool) (_:Unit)=>⟨113,[(1,.ref 1 0),(2,.ref 2 0),(4,.ref 4 0),(6,.d (.v (.int .i64 i66))),(90,.d (.v (.bool v69)))],[(1,.cells 31 [.d (.v (.int .u64 s1.epoch)),.d (.v (.int .u16 s1.last)),.d (.sl (List.map TMember.e s1.members)),.d (.sl (List.map (eK .u64) s1.tries)),.d (.sl (List.map TRow.e s1.rows)),.d (.sl (List.map PT.e s1.ctx)),.d (.sl (List.map EV.e s1.all))]),(2,.cells 72 [.d (.v (.int .u64 0)),.d (.v (.int .u16 0)),.d (.sl (List.map TMember.e ([]:List TMember))),.d (.v (.int .u64 0)),.d (.v (.int .u64 0)),.d (.v (.int .u64 0)),.d (.v (.int .u64 0)),.d (.v (.int .u64 0)),.d (.v (.int .u64 0)),.d (.v (.int .u64 0)),.d (.v (.int .u64 0)),.d (.v (.int .u64 0)),.d (.v (.int .u64 0)),.d (.v (.int .u64 0)),.d (.v (.int .u64 0)),.d (.v (.int .u64 0)),.d (.v (.int .u64 0)),.d (.v (.int .u64 0)),.d (.v (.int .u64 0)),.d (.sl (List.map R25Row.e ([]:List R25Row))),.d (.sl (List.map PT.e ([]:List PT))),.d (.sl (List.map EV.e ([]:List EV)))]),(4,.cells 72 [.d (.v (.int .u64 s1.epoch)),.d (.v (.int .u16 s1.last)),.d (.sl (List.map TMember.e s1.members)),.d (.v (.int .u64 ar10.1)),.d (.v (.int .u64 ar10.2.1)),.d (.v (.int .u64 ar10.2.2.1)),.d (.v (.int .u64 ar10.2.2.2.1)),.d (.v (.int .u64 ar10.2.2.2.2.1)),.d (.v (.int .u64 ar10.2.2.2.2.2.1)),.d (.v (.int .u64 ar10.2.2.2.2.2.2.1)),.d (.v (.int .u64 ar10.2.2.2.2.2.2.2.1)),.d (.v (.int .u64 ar10.2.2.2.2.2.2.2.2.1)),.d (.v (.int .u64 ar10.2.2.2.2.2.2.2.2.2.1)),.d (.v (.int .u64 ar10.2.2.2.2.2.2.2.2.2.2.1)),.d (.v (.int .u64 ar10.2.2.2.2.2.2.2.2.2.2.2.1)),.d (.v (.int .u64 ar10.2.2.2.2.2.2.2.2.2.2.2.2.1)),.d (.v (.int .u64 ar10.2.2.2.2.2.2.2.2.2.2.2.2.2.1)),.d (.v (.int .u64 ar10.2.2.2.2.2.2.2.2.2.2.2.2.2.2.1)),.d (.v (.int .u64 ar10.2.2.2.2.2.2.2.2.2.2.2.2.2.2.2)),.d (.sl (List.map R25Row.e c67)),.d (.sl (List.map PT.e s1.ctx)),.d (.sl (List.map EV.e s1.all))])]⟩) (fun h=>?_) ?_
      ·refine g5 ?_;(iterate 3 refine h5 ?_);obtain⟨x70,hy71,h⟩:=zk h;refine qs (fun _ U W=>iX (enc:=TRow.e) (L:=s1.rows) (y:=x70) underlying26 sizeOf51 U U hy71 (fun _=>rfl)) ?_;(iterate 5 refine h5 ?_);obtain⟨x72,hy73,h⟩:=zk h;refine qs (fun _ U W=>iX (enc:=TMember.e) (L:=s1.members) (y:=x72) underlying24 sizeOf59 U U hy73 (fun _=>rfl)) ?_;(iterate 4 refine h5 ?_);refine xQ (d:=81) h rfl (fun _ h=>?_) (fun _ h=>?_)
       ·(iterate 10 refine h5 ?_);exact⟨true,(),h,sP⟩
       ·(iterate 3 refine h5 ?_);obtain⟨x75,hy76,h⟩:=zk h;refine qt (fun _ U W=>iX (enc:=TRow.e) (L:=s1.rows) (y:=x75) underlying26 sizeOf51 U U hy76 (fun _=>rfl)) ?_;(iterate 2 refine h5 ?_);obtain⟨v77,hy78,h⟩:=zL h;refine qt (fun _ U W=>cN (Uy x75.have_ v77 hy78) U call63 (wb (fun a b=>U a b) rfl rfl) rfl rfl rfl) ?_;(iterate 3 refine h5 ?_);exact⟨(!v77),(),h,sP⟩
      ·rintro v69 _ h;refine xD h rfl (fun _ h=>?_) (fun _ h=>?_)
       ·(iterate 2 refine g5 ?_);refine ws (LR.build (ns:=[_,_,_,_,_,_,_,_,_,_,_,_,_,_,_,_,_,_,_,_,_,_]) zea rfl rfl rfl) ?_;(iterate 3 refine g5 ?_);refine wX ?_;cases h;exact⟨.inr rfl,_,.cons (.agg isAgg72 sizeOf72 rfl rfl rfl rfl)<|.cons (.tmp rfl rfl)<|.nil,rfl⟩
       ·refine g5 ?_;refine wz (tl:=[(1,_),(2,_),(4,_),(6,_)]) (to:=[(1,_),(2,_),(4,_)]) ?_;refine PWc.regionE [⟨[92],[92],[],[92],[],[92],[],[]⟩,⟨[93],[],[],[],[],[4],[],[]⟩,⟨[94],[],[4],[],[],[],[],[]⟩,⟨[92,95],[92],[92],[],[(92,[92])],[92],[],[]⟩,⟨[96],[],[],[],[],[1],[],[]⟩,⟨[97],[],[1],[],[],[],[],[]⟩,{ws:=[98]},{ws:=[99]},{ws:=[100]},{ws:=[101]},⟨[102],[],[],[],[],[1],[],[]⟩,⟨[103],[],[1],[],[],[],[],[]⟩,{ws:=[104]},{ws:=[105]},{ws:=[106]},{ws:=[107]},{ws:=[108]},{ws:=[109]},⟨[92,95,110],[92],[92],[],[(92,[92,95])],[],[],[]⟩,⟨[111],[],[],[],[],[4],[],[]⟩,⟨[],[4],[4],[],[],[],[],[]⟩] (by kernel_rfl) (by kernel_rfl) rfl ?_;refine PQe.stepN (fun _ U W hf=>LR.buildSlice [] yja rfl rfl (.nil) (by decide) (by decide) hf) rfl (.inl rfl) rfl ?_;(iterate 2 refine h5 ?_);obtain⟨hy80,h⟩:=zr h;refine PQe.stepA [92] (fun _ U W ha=>LR.appT (enc:=R25Row.e) (L:=([]:List R25Row)) (R:=c67) [92] yja underlying68 (U rfl rfl) (by first | (simp;done) | (simp;omega) | omega) (W rfl rfl) (Src.slT (enc:=R25Row.e) (R:=c67) (U rfl rfl) (fun _=>rfl)) (fun _=>rfl) hy80 rfl ha) rfl (.inl rfl) rfl ?_;(iterate 3 refine h5 ?_);obtain⟨x81,hy82,h⟩:=zk h;refine kp (fun _ U W=>iX (enc:=TRow.e) (L:=s1.rows) (y:=x81) underlying26 sizeOf51 U U hy82 (fun _=>rfl)) ?_;(iterate 5 refine h5 ?_);obtain⟨x83,hy84,h⟩:=zk h;refine kp (fun _ U W=>iX (enc:=TRow.e) (L:=s1.rows) (y:=x83) underlying26 sizeOf51 U U hy84 (fun _=>rfl)) ?_;(iterate 2 refine h5 ?_);refine kp (fun _ U W=>LR.build (ns:=[_,_]) build129 rfl (evpE (fun a b=>U a b) rfl rfl) rfl) ?_;refine kp (fun _ U W=>LR.buildSliceD [.tmp 108] yja rfl rfl (.cons U rfl rfl<|.nil) (by decide) (by decide)) ?_;obtain⟨hy85,h⟩:=zr h;refine PQe.stepA [92,95] (fun _ U W ha=>LR.appTD (enc:=R25Row.e) (L:=(([]:List R25Row)++c67)) (R:=[(⟨x81.who,x83.have_⟩:R25Row)]) [92,95] hK yja underlying68 (U rfl rfl) rfl (W rfl rfl) (Src.slT (enc:=R25Row.e) (R:=[(⟨x81.who,x83.have_⟩:R25Row)]) (U rfl rfl) (fun _=>rfl)) (fun _=>rfl) hy85 rfl ha) rfl (.inl rfl) rfl ?_;refine h5 ?_;refine ks (fun _ U W=>sB (ns:=[_,_,_,_,_,_,_,_,_,_,_,_,_,_,_,_,_,_,_,_,_,_]) sizeOf68 U U rfl rfl (W rfl rfl) rfl rfl)<|PQe.nil ?_;refine g5 ?_;refine wy (tl:=[(1,_),(2,_),(4,_),(6,_)]) (to:=[(1,_),(2,_),(4,_)]) ?_;(iterate 4 refine g5 ?_);exact⟨((IntKind.i64.wrap (i66+1)),((([]:List R25Row)++c67)++[(⟨x81.who,x83.have_⟩:R25Row)])),(),h,sP⟩
     ·refine wZ ?_;exact⟨c67,(),h,sP⟩
    ·rintro c27 _ h;(iterate 6 refine g5 ?_);refine wX ?_;cases h;exact⟨.inr rfl,_,.cons (.agg isAgg72 sizeOf72 rfl rfl rfl rfl)<|.cons (.tmp rfl rfl)<|.nil,rfl⟩
theorem xwa(v1:Int)(r0:Int)(h:(Jl v1).wp (·=r0)):PFun prog 64 [.d (.v (.int .u64 v1))] (.d (.v (.int .i64 r0))):=by
 refine fI (sl:=[(0,_)]) func64 rfl ntmps64 rfl rfl ?_;intro ctx hK;(iterate 9 refine g5 ?_);refine wJ (zG h) (fun(n2:Int) (_:Unit)=>⟨11,[(3,.d (.v (.int .i64 n2)))],[]⟩) (fun h=>?_) ?_
 ·refine g5 ?_;refine wM (fun(⟨v7,n8⟩:Int×Int) (_:Unit)=>⟨11,[(0,.d (.v (.int .u64 v7))),(3,.d (.v (.int .i64 n8)))],[]⟩) () h (sP) ?_;rintro N ⟨v7,n8⟩ _ h;(iterate 6 refine g5 ?_);refine xD h rfl (fun _ h=>?_) (fun _ h=>?_)
  ·(iterate 13 refine g5 ?_);exact⟨((IntKind.u64.wrap (Int.tdiv v7 256)),(IntKind.i64.wrap (n8+1))),(),h,sP⟩
  ·refine wZ ?_;exact⟨n8,(),h,sP⟩
 ·rintro n2 _ h;(iterate 5 refine g5 ?_);refine wX ?_;cases h;exact xT
theorem z0a(v1:Int)(i2:Int)(r0:Int)(h:(UJ v1 i2).wp (·=r0)):PFun prog 65 [.d (.v (.int .u64 v1)),.d (.v (.int .i64 i2))] (.d (.v (.int .u8 r0))):=by
 refine fI (sl:=[(0,_),(1,_)]) func65 rfl ntmps65 rfl rfl ?_;intro ctx hK;(iterate 6 refine g5 ?_);refine wJ (zG h) (fun(v3:Bool) (_:Unit)=>⟨22,[(0,.d (.v (.int .u64 v1))),(1,.d (.v (.int .i64 i2))),(11,.d (.v (.bool v3)))],[]⟩) (fun h=>?_) ?_
 ·(iterate 4 refine g5 ?_);refine xG (d:=8) h rfl (fun _ h=>?_) (fun _ h=>?_)
  ·(iterate 4 refine g5 ?_);exact⟨true,(),h,sP⟩
  ·(iterate 4 refine g5 ?_);exact⟨(decide (7 < i2)),(),h,sP⟩
 ·rintro v3 _ h;refine xD h rfl (fun _ h=>?_) (fun _ h=>?_)
  ·(iterate 4 refine g5 ?_);refine wX ?_;cases h;exact xT
  ·(iterate 6 refine g5 ?_);refine wJ (zG h) (fun(v6:Int) (_:Unit)=>⟨22,[(0,.d (.v (.int .u64 v6)))],[]⟩) (fun h=>?_) ?_
   ·refine g5 ?_;refine wM (fun(⟨v11,k12⟩:Int×Int) (_:Unit)=>⟨22,[(0,.d (.v (.int .u64 v11))),(1,.d (.v (.int .i64 i2))),(5,.d (.v (.int .i64 k12)))],[]⟩) () h (sP) ?_;rintro N ⟨v11,k12⟩ _ h;(iterate 7 refine g5 ?_);refine xD h rfl (fun _ h=>?_) (fun _ h=>?_)
    ·(iterate 13 refine g5 ?_);exact⟨((IntKind.u64.wrap (Int.tdiv v11 256)),(IntKind.i64.wrap (k12+1))),(),h,sP⟩
    ·refine wZ ?_;exact⟨v11,(),h,sP⟩
   ·rintro v6 _ h;(iterate 4 refine g5 ?_);refine ws (LR.convInt underlying5 (by rw[underlying22];rfl) rfl rfl) ?_;(iterate 2 refine g5 ?_);refine wX ?_;cases h;exact xT
theorem zY(b1:List Int)(v2:Int)(r0:List Int)(h:(zl b1 v2).wp (·=r0)):PRow prog 25 [.d (.sl (List.map (eK .u8) b1)),.d (.v (.int .u64 v2))] 5 1 (List.map (eK .u8) r0):=by
 refine PRow.intro (sl:=[(0,_),(1,_)]) func25 rfl ntmps25 rfl rfl ?_;intro ctx hK;(iterate 2 refine g5 ?_);refine ws (aR 5 1 rfl) ?_;(iterate 5 refine g5 ?_);obtain⟨hy3,h⟩:=zr h;refine ws (LR.appT (enc:=(eK .u8)) (L:=([]:List Int)) (R:=b1) [8] xM underlying34 rfl (by first | (simp;done) | (simp;omega) | omega) rfl (Src.slT (enc:=(eK .u8)) (R:=b1) rfl (fun _=>rfl)) (fun _=>rfl) hy3 rfl rfl) ?_;(iterate 5 refine g5 ?_);obtain⟨v4,hy5,h⟩:=zL h;refine xN (xwa v2 v4 hy5) call64 ?_;(iterate 6 refine g5 ?_);refine ws (LR.convInt underlying5 (by rw[underlying3];rfl) rfl rfl) ?_;refine ws (LR.buildSliceD [.tmp 15] xM rfl rfl (.cons rfl rfl rfl<|.nil) (by decide) (by decide)) ?_;obtain⟨hy6,h⟩:=zr h;refine ws (LR.appT (enc:=(eK .u8)) (L:=(([]:List Int)++b1)) (R:=[(IntKind.u8.wrap v4)]) [5,10,13] xM underlying34 rfl rfl rfl (Src.slT (enc:=(eK .u8)) (R:=[(IntKind.u8.wrap v4)]) rfl (fun _=>rfl)) (fun _=>rfl) hy6 rfl rfl) ?_;(iterate 9 refine g5 ?_);refine wJ (zG h) (fun(v7:List Int) (_:Unit)=>⟨31,[(5,.row 8 (v7.length))],[(8,.row 5 1 (List.map (eK .u8) v7))]⟩) (fun h=>?_) ?_
 ·refine g5 ?_;refine wM (fun(⟨i18,v19⟩:Int×List Int) (_:Unit)=>⟨31,[(1,.d (.v (.int .u64 v2))),(5,.row 8 (v19.length)),(7,.d (.v (.int .i64 i18)))],[(8,.row 5 1 (List.map (eK .u8) v19))]⟩) () h (sO rfl (.cons rfl rfl<|.cons rfl (by first | rfl | (simp;done) | (congr 1;first | (simp;done) | (simp;omega) | omega))<|.cons rfl rfl<|.nil) (.cons rfl rfl<|.nil)) ?_;rintro N ⟨i18,v19⟩ _ h;(iterate 6 refine g5 ?_);refine xD h rfl (fun _ h=>?_) (fun _ h=>?_)
  ·(iterate 7 refine g5 ?_);obtain⟨v21,hy22,h⟩:=zL h;refine xN (z0a v2 i18 v21 hy22) call65<|ws (LR.buildSliceD [.tmp 27] xM rfl rfl (.cons rfl rfl rfl<|.nil) (by decide) (by decide)) ?_;obtain⟨hy23,h⟩:=zr h;refine ws (LR.appT (enc:=(eK .u8)) (L:=v19) (R:=[v21]) [5,24] xM underlying34 rfl rfl rfl (Src.slT (enc:=(eK .u8)) (R:=[v21]) rfl (fun _=>rfl)) (fun _=>rfl) hy23 rfl rfl) ?_;(iterate 7 refine g5 ?_);exact⟨((IntKind.i64.wrap (i18 - 1)),(v19++[v21])),(),h,sP⟩
  ·refine wZ ?_;exact⟨v19,(),h,sP⟩
 ·rintro v7 _ h;(iterate 5 refine g5 ?_);refine wX ?_;cases h;exact⟨.inr rfl,4,rfl,.inr ⟨8,_,rfl,(by simp),rfl⟩⟩
theorem Wi(b1:List Int)(c2:List PT)(r0:List Int)(h:(uG b1 c2).wp (·=r0)):PFun prog 26 [.d (.sl (List.map (eK .u8) b1)),.d (.sl (List.map PT.e c2))] (.d (.sl (List.map (eK .u8) r0))):=by
 refine fI (sl:=[(0,_),(1,_)]) func26 rfl ntmps26 rfl rfl ?_;intro ctx hK;(iterate 2 refine g5 ?_);refine ws (aR 5 1 rfl) ?_;(iterate 4 refine g5 ?_);obtain⟨v3,hy4,h⟩:=zL h;refine ws (LR.rowN (Ux c2 v3 hy4) rfl call66 rfl rfl rfl rfl) ?_;(iterate 7 refine g5 ?_);refine ws (LR.convInt underlying22 (by rw[underlying3];rfl) rfl rfl) ?_;obtain⟨v5,hy6,h⟩:=zL h;refine ws (LR.rowN (zY b1 ((IntKind.u64.wrap (v3.length:Int))) v5 hy6) rfl call25 rfl rfl rfl rfl) ?_;(iterate 7 refine g5 ?_);refine wJ (zG h) (fun(out7:List Int) (_:Unit)=>⟨70,[(5,.d (.sl (List.map (eK .u8) out7)))],[]⟩) (fun h=>?_) ?_
 ·refine g5 ?_;refine wM (fun(⟨out128,i129⟩:List Int×Int) (_:Unit)=>⟨70,[(1,.row 9 (v3.length)),(5,.d (.sl (List.map (eK .u8) out128))),(6,.d (.v (.int .i64 i129)))],[(9,.row 99 2 (List.map PT.e v3))]⟩) () h (Sub.trans (Sub.frz [5,14] hK rfl (by simp) (AllRow.get (.cons rfl<|.cons rfl<|.nil)))<|sP) ?_;rintro N ⟨out128,i129⟩ _ h;(iterate 8 refine g5 ?_);refine xD h rfl (fun _ h=>?_) (fun _ h=>?_)
  ·(iterate 2 refine g5 ?_);refine wJ (zG h) (fun(out131:List Int) (_:Unit)=>⟨70,[(1,.row 9 (v3.length)),(5,.d (.sl (List.map (eK .u8) out131))),(6,.d (.v (.int .i64 i129)))],[(9,.row 99 2 (List.map PT.e v3))]⟩) (fun h=>?_) ?_
   ·(iterate 6 refine g5 ?_);obtain⟨x132,hy133,h⟩:=zk h;refine ws (LR.idxRowT (L:=v3) (y:=x132) underlying28 sizeOf99 rfl rfl rfl hy133) ?_;refine g5 ?_;refine ws (LR.loadRpF (enc:=PT.e) (L:=v3) (y:=x132) isAgg23 rfl rfl hy133.2 rfl) ?_;refine ws (LR.convInt underlying22 (by rw[underlying23];rfl) rfl rfl) ?_;obtain⟨v134,hy135,h⟩:=zL h;refine ws (LR.rowN (zY out128 (IntKind.u64.wrap x132.dev) v134 hy135) rfl call25 rfl rfl rfl rfl) ?_;(iterate 7 refine g5 ?_);obtain⟨x136,hy137,h⟩:=zk h;refine ws (LR.idxRowT (L:=v3) (y:=x136) underlying28 sizeOf99 rfl rfl rfl hy137) ?_;refine g5 ?_;refine wy (tl:=[(1,_),(5,_),(6,_),(29,_),(33,_)]) (to:=[(9,_),(28,_)]) ?_;refine ws (LR.loadRpF (enc:=PT.e) (L:=v3) (y:=x136) isAgg97 rfl rfl hy137.2 rfl) ?_;refine g5 ?_;refine ws (LR.convInt underlying22 (by rw[underlying3];rfl) rfl rfl) ?_;obtain⟨v138,hy139,h⟩:=zL h;refine PWl.frz [5,29] hK (.cons rfl<|.cons rfl<|.nil) rfl (by simp) ?_;refine ws (LR.rowN (zY v134 (IntKind.u64.wrap (x136.runs.length:Int)) v138 hy139) rfl call25 rfl rfl rfl rfl) ?_;(iterate 7 refine g5 ?_);refine wM (fun(⟨out172,k173⟩:List Int×Int) (_:Unit)=>⟨70,[(1,.row 9 (v3.length)),(5,.d (.sl (List.map (eK .u8) out172))),(6,.d (.v (.int .i64 i129))),(7,.d (.v (.int .i64 k173)))],[(9,.row 99 2 (List.map PT.e v3))]⟩) () h (Sub.trans (Sub.frz [5,37] hK rfl (by simp) (AllRow.get (.cons rfl<|.cons rfl<|.nil)))<|sP) ?_;rintro N ⟨out172,k173⟩ _ h;(iterate 6 refine g5 ?_);obtain⟨x174,hy175,h⟩:=zk h;refine ws (LR.idxRowT (L:=v3) (y:=x174) underlying28 sizeOf99 rfl rfl rfl hy175) ?_;refine g5 ?_;refine ws (LR.loadRpF (enc:=PT.e) (L:=v3) (y:=x174) isAgg97 rfl rfl hy175.2 rfl) ?_;(iterate 3 refine g5 ?_);refine xD h rfl (fun _ h=>?_) (fun _ h=>?_)
    ·(iterate 3 refine g5 ?_);refine wz (tl:=[(1,_),(5,_),(6,_),(7,_)]) (to:=[(9,_)]) ?_;refine PWc.regionE [{ws:=[48]},⟨[49],[],[],[],[],[9],[],[]⟩,{ws:=[50]},⟨[51],[],[],[],[],[9],[],[]⟩,⟨[52],[],[],[],[],[9],[],[]⟩,⟨[53],[],[9],[],[],[],[],[]⟩,{ws:=[54]},{ws:=[55]},{ws:=[56]},{ws:=[57]},{ws:=[58]},⟨[59],[],[],[],[],[9],[],[]⟩,{ws:=[60]},⟨[61],[],[],[],[],[9],[],[]⟩,⟨[62],[],[],[],[],[9],[],[]⟩,⟨[63],[],[9],[],[],[],[],[]⟩,{ws:=[64]},{ws:=[65]},{ws:=[66]},{ws:=[67]},⟨[68],[68],[],[68],[],[68],[],[]⟩,⟨[5],[],[],[],[],[68],[],[]⟩] (by kernel_rfl) (by kernel_rfl) rfl ?_;(iterate 3 refine h5 ?_);obtain⟨x177,hy178,h⟩:=zk h;refine kp (fun _ U W=>LR.idxRowT (L:=v3) (y:=x177) underlying28 sizeOf99 U rfl U hy178) ?_;refine h5 ?_;refine kp (fun _ U W=>LR.loadRpF (enc:=PT.e) (L:=v3) (y:=x177) isAgg97 U (W rfl rfl) hy178.2 rfl) ?_;refine h5 ?_;obtain⟨x179,hy180,h⟩:=zk h;refine kp (fun _ U W=>iX (enc:=RN.e) (L:=x177.runs) (y:=x179) underlying97 sizeOf124 U U hy180 (fun _=>rfl)) ?_;(iterate 2 refine h5 ?_);obtain⟨v181,hy182,h⟩:=zL h;refine kp (fun _ U W=>cN (PRow.fun (zY out172 x179.lo v181 hy182)) U call25 (wb (fun a b=>U a b) rfl rfl) rfl rfl rfl) ?_;(iterate 2 refine h5 ?_);obtain⟨x183,hy184,h⟩:=zk h;refine kp (fun _ U W=>LR.idxRowT (L:=v3) (y:=x183) underlying28 sizeOf99 U rfl U hy184) ?_;refine h5 ?_;refine kp (fun _ U W=>LR.loadRpF (enc:=PT.e) (L:=v3) (y:=x183) isAgg97 U (W rfl rfl) hy184.2 rfl) ?_;refine h5 ?_;obtain⟨x185,hy186,h⟩:=zk h;refine kp (fun _ U W=>iX (enc:=RN.e) (L:=x183.runs) (y:=x185) underlying97 sizeOf124 U U hy186 (fun _=>rfl)) ?_;(iterate 2 refine h5 ?_);obtain⟨v187,hy188,h⟩:=zL h;refine PQe.stepN (fun _ U W hf=>LR.rowN (zY v181 x185.hi v187 hy188) (U rfl rfl) call25 (wb U rfl rfl) rfl rfl hf) rfl (.inl rfl) rfl ?_;refine h5 ?_;refine PQe.nil<|wz (tl:=[(1,_),(5,_),(6,_),(7,_)]) (to:=[(9,_),(68,_)]) ?_;(iterate 5 refine g5 ?_);exact⟨(v187,(IntKind.i64.wrap (k173+1))),(),h,Sub.trans (Sub.frz [5] hK rfl (by simp) (AllRow.get (.cons rfl<|.nil)))<|sP⟩
    ·refine wZ ?_;exact⟨out172,(),h,sP⟩
   ·rintro out131 _ h;(iterate 5 refine g5 ?_);exact⟨(out131,(IntKind.i64.wrap (i129+1))),(),h,sP⟩
  ·refine wZ ?_;exact⟨out128,(),h,sP⟩
 ·rintro out7 _ h;(iterate 5 refine g5 ?_);refine wX ?_;cases h;exact xT
theorem Wj(b1:List Int)(d2:DT)(r0:List Int)(h:(ZQ b1 d2).wp (·=r0)):PRow prog 106 [.d (.sl (List.map (eK .u8) b1)),.agg (List.map .d (DT.e d2))] 5 1 (List.map (eK .u8) r0):=by
 refine PRow.intro (sl:=[(0,_),(1,_)]) func106 rfl ntmps106 rfl rfl ?_;intro ctx hK;(iterate 3 refine g5 ?_);refine ws (aR 5 1 rfl) ?_;(iterate 2 refine g5 ?_);refine wz (tl:=[(0,_),(3,_)]) (to:=[(3,_)]) ?_;refine PWc.regionE [{ws:=[5]},⟨[6],[],[],[],[],[3],[],[]⟩,⟨[7],[],[3],[],[],[],[],[]⟩,{ws:=[8]},{ws:=[9]},⟨[10],[],[],[],[],[3],[],[]⟩,⟨[11],[],[3],[],[],[],[],[]⟩,⟨[12],[12],[],[12],[],[12],[],[]⟩,⟨[4],[],[],[],[],[12],[],[]⟩] (by kernel_rfl) (by kernel_rfl) rfl ?_;(iterate 3 refine h5 ?_);refine kp (fun _ U W=>LR.convInt underlying22 (by rw[underlying23];rfl) U rfl) ?_;obtain⟨v3,hy4,h⟩:=zL h;refine kp (fun _ U W=>cN (PRow.fun (zY b1 (IntKind.u64.wrap d2.dev) v3 hy4)) U call25 (wb (fun a b=>U a b) rfl rfl) rfl rfl rfl) ?_;(iterate 2 refine h5 ?_);obtain⟨v5,hy6,h⟩:=zL h;refine PQe.stepN (fun _ U W hf=>LR.rowN (zY v3 d2.n v5 hy6) (U rfl rfl) call25 (wb U rfl rfl) rfl rfl hf) rfl (.inl rfl) rfl ?_;refine h5 ?_;refine PQe.nil<|wX ?_;cases h;exact⟨.inr rfl,4,rfl,.inr ⟨12,_,rfl,(by simp),rfl⟩⟩
theorem z1a(b1:List Int)(s2:ByteArray)(r0:List Int)(h:(UK b1 s2).wp (·=r0)):PRow prog 107 [.d (.sl (List.map (eK .u8) b1)),.d (.v (.string s2))] 5 1 (List.map (eK .u8) r0):=by
 refine PRow.intro (sl:=[(0,_),(1,_)]) func107 rfl ntmps107 rfl rfl ?_;intro ctx hK;(iterate 2 refine g5 ?_);refine ws (aR 5 1 rfl) ?_;(iterate 6 refine g5 ?_);refine ws (LR.convInt underlying22 (by rw[underlying3];rfl) rfl rfl) ?_;obtain⟨v3,hy4,h⟩:=zL h;refine ws (LR.rowN (zY b1 (IntKind.u64.wrap (ByteArray.size s2:Int)) v3 hy4) rfl call25 rfl rfl rfl rfl) ?_;(iterate 7 refine g5 ?_);refine wJ (zG h) (fun(v5:List Int) (_:Unit)=>⟨25,[(5,.row 11 (v5.length))],[(11,.row 5 1 (List.map (eK .u8) v5))]⟩) (fun h=>?_) ?_
 ·refine g5 ?_;refine wM (fun(⟨i_16,v17⟩:Int×List Int) (_:Unit)=>⟨25,[(1,.d (.v (.string s2))),(5,.row 11 (v17.length)),(6,.d (.v (.int .i64 i_16)))],[(11,.row 5 1 (List.map (eK .u8) v17))]⟩) () h (sP) ?_;rintro N ⟨i_16,v17⟩ _ h;(iterate 8 refine g5 ?_);refine xD h rfl (fun _ h=>?_) (fun _ h=>?_)
  ·(iterate 7 refine g5 ?_);obtain⟨b19,hy20,h⟩:=zk h;refine ws (LR.strIdx underlying9 rfl rfl hy20)<|ws (LR.buildSliceD [.tmp 21] xM rfl rfl (.cons rfl rfl rfl<|.nil) (by decide) (by decide)) ?_;obtain⟨hy21,h⟩:=zr h;refine ws (LR.appT (enc:=(eK .u8)) (L:=v17) (R:=[b19]) [5,18] xM underlying34 rfl rfl rfl (Src.slT (enc:=(eK .u8)) (R:=[b19]) rfl (fun _=>rfl)) (fun _=>rfl) hy21 rfl rfl) ?_;(iterate 7 refine g5 ?_);exact⟨((IntKind.i64.wrap (i_16+1)),(v17++[b19])),(),h,sP⟩
  ·refine wZ ?_;exact⟨v17,(),h,sP⟩
 ·rintro v5 _ h;(iterate 5 refine g5 ?_);refine wX ?_;cases h;exact⟨.inr rfl,4,rfl,.inr ⟨11,_,rfl,(by simp),rfl⟩⟩
theorem jm(b1:List Int)(l2:List DT)(r0:List Int)(h:(Zq b1 l2).wp (·=r0)):PFun prog 108 [.d (.sl (List.map (eK .u8) b1)),.d (.sl (List.map DT.e l2))] (.d (.sl (List.map (eK .u8) r0))):=by
 refine fI (sl:=[(0,_),(1,_)]) func108 rfl ntmps108 rfl rfl ?_;intro ctx hK;(iterate 2 refine g5 ?_);refine ws (aR 5 1 rfl) ?_;(iterate 3 refine g5 ?_);refine ws (aR 101 2 rfl) ?_;(iterate 6 refine g5 ?_);refine wJ (zG h) (fun(some3:List DT) (_:Unit)=>⟨44,[(0,.d (.sl (List.map (eK .u8) b1))),(5,.d (.sl (List.map DT.e some3)))],[]⟩) (fun h=>?_) ?_
 ·refine g5 ?_;refine wM (fun(⟨some28,i29⟩:List DT×Int) (_:Unit)=>⟨44,[(0,.d (.sl (List.map (eK .u8) b1))),(1,.d (.sl (List.map DT.e l2))),(5,.d (.sl (List.map DT.e some28))),(6,.d (.v (.int .i64 i29)))],[]⟩) () h (Sub.trans (Sub.frz [5] hK rfl (by first | (simp;done) | (simp;omega) | omega) (AllRow.get (.cons rfl<|.nil)))<|sP) ?_;rintro N ⟨some28,i29⟩ _ h;(iterate 8 refine g5 ?_);refine xD h rfl (fun _ h=>?_) (fun _ h=>?_)
  ·(iterate 2 refine g5 ?_);refine wJ (zG h) (fun(some31:List DT) (_:Unit)=>⟨44,[(0,.d (.sl (List.map (eK .u8) b1))),(1,.d (.sl (List.map DT.e l2))),(5,.d (.sl (List.map DT.e some31))),(6,.d (.v (.int .i64 i29)))],[]⟩) (fun h=>?_) ?_
   ·(iterate 5 refine g5 ?_);obtain⟨x32,hy33,h⟩:=zk h;refine ws (iX (enc:=DT.e) (L:=l2) (y:=x32) underlying102 sizeOf101 rfl rfl hy33 (fun _=>rfl)) ?_;refine g5 ?_;obtain⟨v34,hy35,h⟩:=zL h;refine xN (ud x32 v34 hy35) call140 ?_;refine g5 ?_;refine xD h rfl (fun _ h=>?_) (fun _ h=>?_)
    ·(iterate 4 refine g5 ?_);obtain⟨x37,hy38,h⟩:=zk h;refine ws (iX (enc:=DT.e) (L:=l2) (y:=x37) underlying102 sizeOf101 rfl rfl hy38 (fun _=>rfl)) ?_;refine g5 ?_;obtain⟨v39,hy40,h⟩:=zL h;refine ws (LR.rowN (uH some28 x37 v39 hy40) rfl call146 rfl rfl rfl rfl) ?_;(iterate 2 refine g5 ?_);exact⟨v39,(),h,Sub.trans (Sub.frz [5,25] hK rfl (by simp) (AllRow.get (.cons rfl<|.cons rfl<|.nil)))<|sP⟩
    ·refine g5 ?_;exact⟨some28,(),h,sP⟩
   ·rintro some31 _ h;(iterate 5 refine g5 ?_);exact⟨(some31,(IntKind.i64.wrap (i29+1))),(),h,sP⟩
  ·refine wZ ?_;exact⟨some28,(),h,sP⟩
 ·rintro some3 _ h;(iterate 5 refine g5 ?_);refine ws (LR.convInt underlying22 (by rw[underlying3];rfl) rfl rfl) ?_;obtain⟨v41,hy42,h⟩:=zL h;refine ws (LR.rowN (zY b1 (IntKind.u64.wrap (some3.length:Int)) v41 hy42) rfl call25 rfl rfl rfl rfl) ?_;(iterate 7 refine g5 ?_);refine wJ (zG h) (fun(out43:List Int) (_:Unit)=>⟨44,[(7,.d (.sl (List.map (eK .u8) out43)))],[]⟩) (fun h=>?_) ?_
  ·refine g5 ?_;refine wM (fun(⟨out56,i57⟩:List Int×Int) (_:Unit)=>⟨44,[(5,.d (.sl (List.map DT.e some3))),(7,.d (.sl (List.map (eK .u8) out56))),(8,.d (.v (.int .i64 i57)))],[]⟩) () h (Sub.trans (Sub.frz [7,30] hK rfl (by simp) (AllRow.get (.cons rfl<|.cons rfl<|.nil)))<|sP) ?_;rintro N ⟨out56,i57⟩ _ h;(iterate 8 refine g5 ?_);refine xD h rfl (fun _ h=>?_) (fun _ h=>?_)
   ·(iterate 7 refine g5 ?_);obtain⟨x59,hy60,h⟩:=zk h;refine ws (iX (enc:=DT.e) (L:=some3) (y:=x59) underlying102 sizeOf101 rfl rfl hy60 (fun _=>rfl)) ?_;refine g5 ?_;obtain⟨v61,hy62,h⟩:=zL h;refine ws (LR.rowN (Wj out56 x59 v61 hy62) rfl call106 rfl rfl rfl rfl) ?_;(iterate 7 refine g5 ?_);exact⟨(v61,(IntKind.i64.wrap (i57+1))),(),h,Sub.trans (Sub.frz [7,42] hK rfl (by simp) (AllRow.get (.cons rfl<|.cons rfl<|.nil)))<|sP⟩
   ·refine wZ ?_;exact⟨out56,(),h,sP⟩
  ·rintro out43 _ h;(iterate 5 refine g5 ?_);refine wX ?_;cases h;exact xT
theorem xxa(b1:List Int)(e2:EV)(r0:List Int)(h:(Jm b1 e2).wp (·=r0)):PFun prog 67 [.d (.sl (List.map (eK .u8) b1)),.agg (List.map .d (EV.e e2))] (.d (.sl (List.map (eK .u8) r0))):=by
 refine fI (sl:=[(0,_),(1,_)]) func67 rfl ntmps67 rfl rfl ?_;intro ctx hK;(iterate 3 refine g5 ?_);refine ws (aR 5 1 rfl) ?_;(iterate 2 refine g5 ?_);refine wz (tl:=[(0,_),(3,_)]) (to:=[(3,_)]) ?_;refine PWc.regionE [{ws:=[6]},⟨[7],[],[],[],[],[3],[],[]⟩,⟨[8],[],[3],[],[],[],[],[]⟩,⟨[9],[9],[],[9],[],[9],[],[]⟩,⟨[10],[],[],[],[],[3],[],[]⟩,⟨[11],[],[3],[],[],[],[],[]⟩,{ws:=[12]},⟨[9,13],[9],[9],[],[(9,[9])],[9],[],[]⟩,⟨[5],[],[],[],[],[9],[],[]⟩] (by kernel_rfl) (by kernel_rfl) rfl ?_;(iterate 3 refine h5 ?_);obtain⟨v3,hy4,h⟩:=zL h;refine PQe.stepN (fun _ U W hf=>LR.rowN (Wj b1 e2.dot v3 hy4) (U rfl rfl) call106 (wb U rfl rfl) rfl rfl hf) rfl (.inl rfl) rfl ?_;(iterate 2 refine h5 ?_);refine kp (fun _ U W=>LR.buildSliceD [.tmp 11] xM rfl rfl (.cons U rfl rfl<|.nil) (by decide) (by decide)) ?_;obtain⟨hy5,h⟩:=zr h;refine PQe.stepA [9] (fun _ U W ha=>LR.appT (enc:=(eK .u8)) (L:=v3) (R:=[e2.kind]) [9] xM underlying34 (U rfl rfl) rfl (W rfl rfl) (Src.slT (enc:=(eK .u8)) (R:=[e2.kind]) (U rfl rfl) (fun _=>rfl)) (fun _=>rfl) hy5 rfl ha) rfl (.inl rfl) rfl ?_;refine h5 ?_;refine PQe.nil ?_;(iterate 5 refine g5 ?_);obtain⟨v6,hy7,h⟩:=zL h;refine PWl.frz [5,13,14] hK (.cons rfl<|.cons rfl<|.cons rfl<|.nil) rfl (by simp) ?_;refine ws (LR.rowN (zY (v3++[e2.kind]) e2.cid v6 hy7) rfl call25 rfl rfl rfl rfl) ?_;(iterate 7 refine g5 ?_);refine ws (LR.buildSliceD [.tmp 20] xM rfl rfl (.cons rfl rfl rfl<|.nil) (by decide) (by decide)) ?_;obtain⟨hy8,h⟩:=zr h;refine ws (LR.appT (enc:=(eK .u8)) (L:=v6) (R:=[e2.field]) [5,17,18] xM underlying34 rfl rfl rfl (Src.slT (enc:=(eK .u8)) (R:=[e2.field]) rfl (fun _=>rfl)) (fun _=>rfl) hy8 rfl rfl)<|wy (tl:=[(3,_),(22,_)]) (to:=[(3,_),(17,_)]) ?_;(iterate 7 refine g5 ?_);obtain⟨v9,hy10,h⟩:=zL h;refine PWl.frz [5,22,23] hK (.cons rfl<|.cons rfl<|.cons rfl<|.nil) rfl (by simp) ?_;refine ws (LR.rowN (z1a (v6++[e2.field]) e2.text v9 hy10) rfl call107 rfl rfl rfl rfl) ?_;(iterate 7 refine g5 ?_);obtain⟨v11,hy12,h⟩:=zL h;refine PWl.frz [5,26,27] hK (.cons rfl<|.cons rfl<|.cons rfl<|.nil) rfl (by simp) ?_;refine xN (jm v9 e2.kills v11 hy12) call108 ?_;(iterate 2 refine g5 ?_);refine wX ?_;cases h;exact xT
theorem qJ(b1:List Int)(l2:List EV)(r0:List Int)(h:(XU b1 l2).wp (·=r0)):PFun prog 27 [.d (.sl (List.map (eK .u8) b1)),.d (.sl (List.map EV.e l2))] (.d (.sl (List.map (eK .u8) r0))):=by
 refine fI (sl:=[(0,_),(1,_)]) func27 rfl ntmps27 rfl rfl ?_;intro ctx hK;(iterate 2 refine g5 ?_);refine ws (aR 5 1 rfl) ?_;(iterate 6 refine g5 ?_);refine ws (LR.convInt underlying22 (by rw[underlying3];rfl) rfl rfl) ?_;obtain⟨v3,hy4,h⟩:=zL h;refine ws (LR.rowN (zY b1 (IntKind.u64.wrap (l2.length:Int)) v3 hy4) rfl call25 rfl rfl rfl rfl) ?_;(iterate 7 refine g5 ?_);refine wJ (zG h) (fun(out5:List Int) (_:Unit)=>⟨25,[(5,.d (.sl (List.map (eK .u8) out5)))],[]⟩) (fun h=>?_) ?_
 ·refine g5 ?_;refine wM (fun(⟨out18,i19⟩:List Int×Int) (_:Unit)=>⟨25,[(1,.d (.sl (List.map EV.e l2))),(5,.d (.sl (List.map (eK .u8) out18))),(6,.d (.v (.int .i64 i19)))],[]⟩) () h (Sub.trans (Sub.frz [5,11] hK rfl (by simp) (AllRow.get (.cons rfl<|.cons rfl<|.nil)))<|sP) ?_;rintro N ⟨out18,i19⟩ _ h;(iterate 8 refine g5 ?_);refine xD h rfl (fun _ h=>?_) (fun _ h=>?_)
  ·(iterate 7 refine g5 ?_);obtain⟨x21,hy22,h⟩:=zk h;refine ws (iX (enc:=EV.e) (L:=l2) (y:=x21) underlying29 sizeOf104 rfl rfl hy22 (fun _=>rfl)) ?_;refine g5 ?_;obtain⟨v23,hy24,h⟩:=zL h;refine xN (xxa out18 x21 v23 hy24) call67 ?_;(iterate 7 refine g5 ?_);exact⟨(v23,(IntKind.i64.wrap (i19+1))),(),h,sP⟩
  ·refine wZ ?_;exact⟨out18,(),h,sP⟩
 ·rintro out5 _ h;(iterate 5 refine g5 ?_);refine wX ?_;cases h;exact xT
theorem xya(s1:THubState)(r0:List Int×Int)(h:(Jo s1).wp (·=r0)):PFun prog 9 [.agg (List.map .d (THubState.e s1))] (.tup [.d (.sl (List.map (eK .u8) r0.1)),.d (.v (.int .i64 r0.2))]):=by
 refine fI (sl:=[(0,_)]) func9 rfl ntmps9 rfl rfl ?_;intro ctx hK;(iterate 3 refine g5 ?_);refine ws (aR 5 1 rfl) ?_;(iterate 5 refine g5 ?_);obtain⟨v2,hy3,h⟩:=zL h;refine xN (zza s1 v2 hy3) call24 ?_;(iterate 9 refine g5 ?_);refine wJ (zG h) (fun(v4:Bool) (_:Unit)=>⟨103,[(1,.ref 1 0),(22,.d (.v (.bool v4)))],[(1,.cells 31 [.d (.v (.int .u64 s1.epoch)),.d (.v (.int .u16 s1.last)),.d (.sl (List.map TMember.e s1.members)),.d (.sl (List.map (eK .u64) s1.tries)),.d (.sl (List.map TRow.e s1.rows)),.d (.sl (List.map PT.e s1.ctx)),.d (.sl (List.map EV.e s1.all))])]⟩) (fun h=>?_) ?_
 ·(iterate 4 refine g5 ?_);refine xG (d:=17) h rfl (fun _ h=>?_) (fun _ h=>?_)
  ·(iterate 6 refine g5 ?_);exact⟨true,(),h,sP⟩
  ·(iterate 6 refine g5 ?_);exact⟨(decide (4096 < (s1.all.length:Int))),(),h,sP⟩
 ·rintro v4 _ h;refine xD h rfl (fun _ h=>?_) (fun _ h=>?_)
  ·(iterate 2 refine g5 ?_);refine ws (aR 5 1 rfl) ?_;(iterate 2 refine g5 ?_);refine wX ?_;cases h;exact⟨.inr rfl,_,.cons (.row rfl rfl (by first | (simp;done) | (simp;omega) | omega))<|.cons (.tmp rfl rfl)<|.nil,rfl⟩
  ·(iterate 2 refine g5 ?_);refine wz (tl:=[(1,_)]) (to:=[(1,_)]) ?_;refine PWc.regionE [⟨[23],[],[],[],[],[1],[],[]⟩,⟨[24],[],[1],[],[],[],[],[]⟩,{ws:=[25]},⟨[26],[],[],[],[],[1],[],[]⟩,⟨[27],[],[1],[],[],[],[],[]⟩,{ws:=[28]},{ws:=[29]},⟨[30],[],[],[],[],[1],[],[]⟩,⟨[31],[],[1],[],[],[],[],[]⟩,{ws:=[32]},{ws:=[33]},⟨[34],[34],[],[34],[],[34],[],[]⟩,⟨[6],[],[],[],[],[34],[],[]⟩] (by kernel_rfl) (by kernel_rfl) rfl ?_;(iterate 2 refine h5 ?_);obtain⟨v7,hy8,h⟩:=zL h;refine kp (fun _ U W=>cN (PRow.fun (zY ([]:List Int) s1.epoch v7 hy8)) U call25 (wb (fun a b=>U a b) rfl rfl) rfl rfl rfl) ?_;(iterate 2 refine h5 ?_);refine kp (fun _ U W=>LR.convInt underlying22 (by rw[underlying23];rfl) U rfl) ?_;obtain⟨v9,hy10,h⟩:=zL h;refine kp (fun _ U W=>cN (PRow.fun (zY v7 (IntKind.u64.wrap s1.last) v9 hy10)) U call25 (wb (fun a b=>U a b) rfl rfl) rfl rfl rfl) ?_;(iterate 2 refine h5 ?_);refine kp (fun _ U W=>lM (enc:=TMember.e) (L:=s1.members) underlying24 U) ?_;refine kp (fun _ U W=>LR.convInt underlying22 (by rw[underlying3];rfl) U rfl) ?_;obtain⟨v11,hy12,h⟩:=zL h;refine PQe.stepN (fun _ U W hf=>LR.rowN (zY v9 (IntKind.u64.wrap (s1.members.length:Int)) v11 hy12) (U rfl rfl) call25 (wb U rfl rfl) rfl rfl hf) rfl (.inl rfl) rfl ?_;refine h5 ?_;refine PQe.nil ?_;(iterate 5 refine g5 ?_);refine wJ (zG h) (fun(b13:List Int) (_:Unit)=>⟨103,[(1,.ref 1 0),(6,.d (.sl (List.map (eK .u8) b13)))],[(1,.cells 31 [.d (.v (.int .u64 s1.epoch)),.d (.v (.int .u16 s1.last)),.d (.sl (List.map TMember.e s1.members)),.d (.sl (List.map (eK .u64) s1.tries)),.d (.sl (List.map TRow.e s1.rows)),.d (.sl (List.map PT.e s1.ctx)),.d (.sl (List.map EV.e s1.all))])]⟩) (fun h=>?_) ?_
   ·refine g5 ?_;refine wM (fun(⟨b40,i41⟩:List Int×Int) (_:Unit)=>⟨103,[(1,.ref 1 0),(6,.d (.sl (List.map (eK .u8) b40))),(7,.d (.v (.int .i64 i41)))],[(1,.cells 31 [.d (.v (.int .u64 s1.epoch)),.d (.v (.int .u16 s1.last)),.d (.sl (List.map TMember.e s1.members)),.d (.sl (List.map (eK .u64) s1.tries)),.d (.sl (List.map TRow.e s1.rows)),.d (.sl (List.map PT.e s1.ctx)),.d (.sl (List.map EV.e s1.all))])]⟩) () h (Sub.trans (Sub.frz [6,34] hK rfl (by simp) (AllRow.get (.cons rfl<|.cons rfl<|.nil)))<|sP) ?_;rintro N ⟨b40,i41⟩ _ h;(iterate 9 refine g5 ?_);refine xD h rfl (fun _ h=>?_) (fun _ h=>?_)
    ·(iterate 4 refine g5 ?_);refine wz (tl:=[(1,_),(6,_),(7,_)]) (to:=[(1,_)]) ?_;refine PWc.regionE [{ws:=[42]},⟨[43],[],[],[],[],[1],[],[]⟩,⟨[44],[],[1],[],[],[],[],[]⟩,{ws:=[45]},{ws:=[46]},{ws:=[47]},{ws:=[48]},{ws:=[49]},⟨[50],[50],[],[50],[],[50],[],[]⟩,⟨[51],[],[],[],[],[1],[],[]⟩,⟨[52],[],[1],[],[],[],[],[]⟩,{ws:=[53]},{ws:=[54]},{ws:=[55]},{ws:=[56]},{ws:=[57]},⟨[50,58],[50],[50],[],[(50,[50])],[50],[],[]⟩,⟨[6],[],[],[],[],[50],[],[]⟩] (by kernel_rfl) (by kernel_rfl) rfl ?_;(iterate 4 refine h5 ?_);obtain⟨x43,hy44,h⟩:=zk h;refine kp (fun _ U W=>iX (enc:=TMember.e) (L:=s1.members) (y:=x43) underlying24 sizeOf59 U U hy44 (fun _=>rfl)) ?_;(iterate 2 refine h5 ?_);refine kp (fun _ U W=>LR.convInt underlying22 (by rw[underlying23];rfl) U rfl) ?_;obtain⟨v45,hy46,h⟩:=zL h;refine PQe.stepN (fun _ U W hf=>LR.rowN (zY b40 (IntKind.u64.wrap x43.dev) v45 hy46) (U rfl rfl) call25 (wb U rfl rfl) rfl rfl hf) rfl (.inl rfl) rfl ?_;(iterate 3 refine h5 ?_);obtain⟨x47,hy48,h⟩:=zk h;refine kp (fun _ U W=>iX (enc:=TMember.e) (L:=s1.members) (y:=x47) underlying24 sizeOf59 U U hy48 (fun _=>rfl)) ?_;(iterate 2 refine h5 ?_);refine kp (fun _ U W=>LR.buildSliceD [.tmp 56] xM rfl rfl (.cons U rfl rfl<|.nil) (by decide) (by decide)) ?_;obtain⟨hy49,h⟩:=zr h;refine PQe.stepA [50] (fun _ U W ha=>LR.appT (enc:=(eK .u8)) (L:=v45) (R:=[x47.slot]) [50] xM underlying34 (U rfl rfl) rfl (W rfl rfl) (Src.slT (enc:=(eK .u8)) (R:=[x47.slot]) (U rfl rfl) (fun _=>rfl)) (fun _=>rfl) hy49 rfl ha) rfl (.inl rfl) rfl ?_;refine h5 ?_;refine PQe.nil ?_;refine g5 ?_;refine wy (tl:=[(1,_),(6,_),(7,_)]) (to:=[(1,_),(50,_)]) ?_;(iterate 4 refine g5 ?_);obtain⟨x50,hy51,h⟩:=zk h;refine ws (iX (enc:=TMember.e) (L:=s1.members) (y:=x50) underlying24 sizeOf59 rfl rfl hy51 (fun _=>rfl)) ?_;(iterate 2 refine g5 ?_);obtain⟨v52,hy53,h⟩:=zL h;refine PWl.frz [6,59] hK (.cons rfl<|.cons rfl<|.nil) rfl (by simp) ?_;refine ws (LR.rowN (zY (v45++[x47.slot]) x50.try_ v52 hy53) rfl call25 rfl rfl rfl rfl) ?_;(iterate 7 refine g5 ?_);exact⟨(v52,(IntKind.i64.wrap (i41+1))),(),h,Sub.trans (Sub.frz [6,66] hK rfl (by simp) (AllRow.get (.cons rfl<|.cons rfl<|.nil)))<|sP⟩
    ·refine wZ ?_;exact⟨b40,(),h,sP⟩
   ·rintro b13 _ h;(iterate 5 refine g5 ?_);refine wJ (zG h) (fun(b54:List Int) (_:Unit)=>⟨103,[(1,.ref 1 0),(6,.d (.sl (List.map (eK .u8) b54)))],[(1,.cells 31 [.d (.v (.int .u64 s1.epoch)),.d (.v (.int .u16 s1.last)),.d (.sl (List.map TMember.e s1.members)),.d (.sl (List.map (eK .u64) s1.tries)),.d (.sl (List.map TRow.e s1.rows)),.d (.sl (List.map PT.e s1.ctx)),.d (.sl (List.map EV.e s1.all))])]⟩) (fun h=>?_) ?_
    ·refine g5 ?_;refine wM (fun(⟨b67,i68⟩:List Int×Int) (_:Unit)=>⟨103,[(1,.ref 1 0),(6,.d (.sl (List.map (eK .u8) b67))),(8,.d (.v (.int .i64 i68)))],[(1,.cells 31 [.d (.v (.int .u64 s1.epoch)),.d (.v (.int .u16 s1.last)),.d (.sl (List.map TMember.e s1.members)),.d (.sl (List.map (eK .u64) s1.tries)),.d (.sl (List.map TRow.e s1.rows)),.d (.sl (List.map PT.e s1.ctx)),.d (.sl (List.map EV.e s1.all))])]⟩) () h (sP) ?_;rintro N ⟨b67,i68⟩ _ h;(iterate 9 refine g5 ?_);refine xD h rfl (fun _ h=>?_) (fun _ h=>?_)
     ·(iterate 8 refine g5 ?_);obtain⟨x70,hy71,h⟩:=zk h;refine ws (iX (enc:=(eK .u64)) (L:=s1.tries) (y:=x70) underlying25 sizeOf22 rfl rfl hy71 (fun _=>rfl)) ?_;refine g5 ?_;obtain⟨v72,hy73,h⟩:=zL h;refine ws (LR.rowN (zY b67 x70 v72 hy73) rfl call25 rfl rfl rfl rfl) ?_;(iterate 7 refine g5 ?_);exact⟨(v72,(IntKind.i64.wrap (i68+1))),(),h,Sub.trans (Sub.frz [6,80] hK rfl (by simp) (AllRow.get (.cons rfl<|.cons rfl<|.nil)))<|sP⟩
     ·refine wZ ?_;exact⟨b67,(),h,sP⟩
    ·rintro b54 _ h;(iterate 5 refine g5 ?_);refine wJ (zG h) (fun(b74:List Int) (_:Unit)=>⟨103,[(1,.ref 1 0),(6,.d (.sl (List.map (eK .u8) b74)))],[(1,.cells 31 [.d (.v (.int .u64 s1.epoch)),.d (.v (.int .u16 s1.last)),.d (.sl (List.map TMember.e s1.members)),.d (.sl (List.map (eK .u64) s1.tries)),.d (.sl (List.map TRow.e s1.rows)),.d (.sl (List.map PT.e s1.ctx)),.d (.sl (List.map EV.e s1.all))])]⟩) (fun h=>?_) ?_
     ·refine g5 ?_;refine wM (fun(⟨b87,i88⟩:List Int×Int) (_:Unit)=>⟨103,[(1,.ref 1 0),(6,.d (.sl (List.map (eK .u8) b87))),(9,.d (.v (.int .i64 i88)))],[(1,.cells 31 [.d (.v (.int .u64 s1.epoch)),.d (.v (.int .u16 s1.last)),.d (.sl (List.map TMember.e s1.members)),.d (.sl (List.map (eK .u64) s1.tries)),.d (.sl (List.map TRow.e s1.rows)),.d (.sl (List.map PT.e s1.ctx)),.d (.sl (List.map EV.e s1.all))])]⟩) () h (sP) ?_;rintro N ⟨b87,i88⟩ _ h;(iterate 9 refine g5 ?_);refine xD h rfl (fun _ h=>?_) (fun _ h=>?_)
      ·(iterate 8 refine g5 ?_);obtain⟨x90,hy91,h⟩:=zk h;refine ws (iX (enc:=TRow.e) (L:=s1.rows) (y:=x90) underlying26 sizeOf51 rfl rfl hy91 (fun _=>rfl)) ?_;(iterate 2 refine g5 ?_);obtain⟨v92,hy93,h⟩:=zL h;refine xN (Wi b87 x90.have_ v92 hy93) call26 ?_;(iterate 7 refine g5 ?_);exact⟨(v92,(IntKind.i64.wrap (i88+1))),(),h,sP⟩
      ·refine wZ ?_;exact⟨b87,(),h,sP⟩
     ·rintro b74 _ h;(iterate 2 refine g5 ?_);(iterate 3 refine h5 ?_);obtain⟨v94,hy95,h⟩:=zL h;refine qs (fun _ U W=>cN (Wi b74 s1.ctx v94 hy95) U call26 (wb (fun a b=>U a b) rfl rfl) rfl rfl rfl) ?_;(iterate 2 refine h5 ?_);obtain⟨v96,hy97,h⟩:=zL h;refine qs (fun _ U W=>cN (qJ v94 s1.all v96 hy97) U call27 (wb (fun a b=>U a b) rfl rfl) rfl rfl rfl) ?_;(iterate 3 refine h5 ?_);refine wX ?_;cases h;exact⟨.inr rfl,_,.cons (.tmp rfl rfl)<|.cons (.tmp rfl rfl)<|.nil,rfl⟩
theorem Vm(s1:THubState)(r0:Bool)(h:(vz s1).wp (·=r0)):PFun prog 3 [.agg (List.map .d (THubState.e s1))] (.d (.v (.bool r0))):=by
 refine fI (sl:=[(0,_)]) func3 rfl ntmps3 rfl rfl ?_;intro ctx hK;(iterate 9 refine g5 ?_);obtain⟨v2,hy3,h⟩:=zL h;refine xN (xra s1 v2 hy3) call6 ?_;(iterate 2 refine g5 ?_);refine xD h rfl (fun _ h=>?_) (fun _ h=>?_)
 ·(iterate 2 refine g5 ?_);obtain⟨v5,hy6,h⟩:=zL h;refine xN (Vi v5 hy6) call7 ?_;(iterate 2 refine g5 ?_);refine wX ?_;cases h;exact xT
 ·(iterate 4 refine g5 ?_);obtain⟨v7,hy8,h⟩:=zL h;refine xN (Vg s1 v7 hy8) call8 ?_;(iterate 9 refine g5 ?_);obtain⟨v9,hy10,h⟩:=zL h;refine xN (xya s1 v9 hy10) call9 ?_;(iterate 7 refine g5 ?_);refine wJ (zG h) (fun(v11:Bool) (_:Unit)=>⟨32,[(2,.d (.v (.bool v11)))],[]⟩) (fun h=>?_) ?_
  ·(iterate 2 refine g5 ?_);refine wy (tl:=[(2,_),(4,_),(5,_),(6,_),(21,_)]) (to:=[]) ?_;refine g5 ?_;obtain⟨v12,hy13,h⟩:=zL h;refine xN (Vh v7.1 v9.1 v12 hy13) call10 ?_;refine g5 ?_;refine xG (d:=24) h rfl (fun _ h=>?_) (fun _ h=>?_)
   ·(iterate 5 refine g5 ?_);refine xG (d:=29) h rfl (fun _ h=>?_) (fun _ h=>?_)
    ·obtain⟨v16,hy17,h⟩:=zL h;refine wt (cN (Vi v16 hy17) rfl call7 rfl rfl rfl rfl) ?_;(iterate 3 refine g5 ?_);exact⟨v16,(),h,sP⟩
    ·(iterate 4 refine g5 ?_);exact⟨false,(),h,sP⟩
   ·(iterate 9 refine g5 ?_);exact⟨false,(),h,sP⟩
  ·rintro v11 _ h;refine wX ?_;cases h;exact xT
end Go.Proofs
namespace Go.Ep
open Go
theorem ue{n:Int}(h:-9223372036854775808<=n)(h':n<=9223372036854775807):IntKind.i64.wrap n=n:=by simp[IntKind.wrap,IntKind.bits,IntKind.signed];omega
theorem ZA{n:Int}(h:0<=n)(h':n<=18446744073709551615):IntKind.u64.wrap n=n:=by simp[IntKind.wrap,IntKind.bits,IntKind.signed];omega
theorem wU16{n:Int}(h:0<=n)(h':n<=65535):IntKind.u16.wrap n=n:=by simp[IntKind.wrap,IntKind.bits,IntKind.signed];omega
theorem wU8{n:Int}(h:0<=n)(h':n<=255):IntKind.u8.wrap n=n:=by simp[IntKind.wrap,IntKind.bits,IntKind.signed];omega
theorem zq{i:Nat}(h:i < 9223372036854775807):IntKind.i64.wrap ((i:Int)+1)=((i+1:Nat):Int):=by rw[ue (by omega) (by omega)];rfl
namespace M
variable{α β σ ρ τ ε:Type}
theorem yu(p:Prop)[Decidable p](x y:M α):cond (decide p) x y=if p then x else y:=by by_cases h:p <;> simp[h]
theorem ZW{body:σ->M (Step σ ρ)}(l:List ε)(mk:Nat->τ->σ)(f:τ->ε->τ)(g:τ->M ρ)
  (I:Nat->τ->Prop) (h1:∀ (i:Nat) (x:ε) (t:τ),l[i]?=some x->i < l.length->I i t->body (mk i t)=pure (.next (mk (i+1) (f t x)))/\I (i+1) (f t x))
  (h2:∀ t,I l.length t->body (mk l.length t)=(g t).bind fun r=>pure (.done r)) (t0:τ) (h0:I 0 t0):loop body (mk 0 t0)=g (l.foldl f t0):=by
 have key:∀ k i t,i+k=l.length->I i t->loop body (mk i t)=g ((l.drop i).foldl f t):=by
  intro k
  induction k with
  | zero=>
   intro i t hi hI;have:i=l.length:=by omega
   subst this;rw[Ue,h2 t hI,List.drop_length]
   rfl
  | succ k ih=>
   intro i t hi hI;have hlt:i < l.length:=by omega
   obtain⟨h3,h4⟩:=h1 i l[i] t (List.getElem?_eq_getElem hlt) hlt hI;rw[zb h3,ih (i+1) _ (by omega) h4,List.drop_eq_getElem_cons hlt]
   rfl
 simpa using key l.length 0 t0 (by omega) h0
theorem loopF{body:σ->M (Step σ ρ)}(l:List ε)(mk:Nat->σ)(p:Nat->ε->Bool)(r:Nat->ε->ρ)(d:M ρ)
  (h1:∀ (i:Nat) (x:ε),l[i]?=some x->i < l.length->body (mk i)=if p i x then pure (.done (r i x)) else pure (.next (mk (i+1))))
  (h2:body (mk l.length)=d.bind fun r=>pure (.done r)):loop body (mk 0)=match (l.zipIdx).find? (fun y=>p y.2 y.1) with | some y=>pure (r y.2 y.1) | none=>d:=by
 have key:∀ k i,i+k=l.length->loop body (mk i)=match ((l.drop i).zipIdx i).find? (fun y=>p y.2 y.1) with | some y=>pure (r y.2 y.1) | none=>d:=by
  intro k
  induction k with
  | zero=>
   intro i hi;have:i=l.length:=by omega
   subst this;rw[Ue,h2,List.drop_length]
   rfl
  | succ k ih=>
   intro i hi;have hlt:i < l.length:=by omega
   have h3:=h1 i l[i] (List.getElem?_eq_getElem hlt) hlt;rw[List.drop_eq_getElem_cons hlt,List.zipIdx_cons,List.find?_cons]
   by_cases hp:p i l[i]=true
   ·rw[if_pos hp] at h3;rw[zQ h3];simp[hp]
   ·rw[if_neg hp] at h3;rw[zb h3,ih (i+1) (by omega)];simp[hp]
 simpa using key l.length 0 (by omega)
theorem wW{body:σ->M (Step σ ρ)}(l:List ε)(mk:Nat->σ)(p:Nat->ε->Bool)(r1 r2:ρ)
  (h1:∀ (i:Nat) (x:ε),l[i]?=some x->i < l.length->body (mk i)=if p i x then pure (.next (mk (i+1))) else pure (.done r2))
  (h2:body (mk l.length)=pure (.done r1)):loop body (mk 0)=pure (if l.zipIdx.all (fun y=>p y.2 y.1) then r1 else r2):=by
 have key:∀ k i,i+k=l.length->loop body (mk i)=pure (if ((l.drop i).zipIdx i).all (fun y=>p y.2 y.1) then r1 else r2):=by
  intro k
  induction k with
  | zero=>
   intro i hi;have:i=l.length:=by omega
   subst this;rw[zQ h2,List.drop_length]
   rfl
  | succ k ih=>
   intro i hi;have hlt:i < l.length:=by omega
   have h3:=h1 i l[i] (List.getElem?_eq_getElem hlt) hlt;rw[List.drop_eq_getElem_cons hlt,List.zipIdx_cons,List.all_cons]
   by_cases hp:p i l[i]=true
   ·rw[if_pos hp] at h3;rw[zb h3,ih (i+1) (by omega),hp,Bool.true_and]
   ·rw[if_neg hp] at h3;rw[zQ h3];simp[hp]
 have:=key l.length 0 (by omega);rw[List.drop_zero] at this;exact this
def came{ε:Type}(m:List ε)(L:List Nat):List ε:=L.filterMap fun i=>m[i]?
theorem vFa{m:List ε}{L:List Nat}{i:Nat}{y:ε}(h:m[i]?=some y):came m (L++[i])=came m L++[y]:=by simp[came,h]
theorem yua{n:Nat}{L:List Nat}(hn:L.Nodup)(hb:∀ i∈L,i < n)(ha:∀ i,i < n->i∈L):L.Perm (List.range n):=by
 refine(List.perm_ext_iff_of_nodup hn List.nodup_range).2 fun i=>?_
 rw[List.mem_range];exact⟨hb i,ha i⟩
theorem vGa{m:List ε}{L:List Nat}(hn:L.Nodup)(hb:∀ i∈L,i < m.length)(ha:∀ i,i < m.length->i∈L):(came m L).Perm m:=by
 have h1:=(yua hn hb ha).filterMap fun i=>m[i]?
 have h2:(List.range m.length).filterMap (fun i=>m[i]?)=m:=by
  apply List.ext_getElem?;intro i;clear h1 hn hb ha;have:(List.range m.length).filterMap (fun i=>m[i]?)=m:=by
   induction m with
   | nil=>rfl
   | cons x r ih=>
    rw[List.length_cons,List.range_succ_eq_map,List.filterMap_cons];simp only[List.getElem?_cons_zero,List.filterMap_map]
    congr 1
  rw[this]
 rw[h2] at h1;exact h1
theorem vHa{n:Nat}{L:List Nat}(hn:L.Nodup)(hb:∀ i∈L,i < n):L.length<=n:=by
 have:=List.Nodup.length_le_of_subset hn (l₂:=List.range n) (fun i hi=>List.mem_range.2 (hb i hi));simpa using this
theorem full{n:Nat}{L:List Nat}(hn:L.Nodup)(hb:∀ i∈L,i < n)(hl:n<=L.length):∀ i,i < n->i∈L:=by
 intro i hi;refine Classical.byContradiction fun hni=>?_
 have:=vHa (n:=n) (L:=i::L) (List.nodup_cons.2 ⟨hni,hn⟩) (fun j hj=>by
  rcases List.mem_cons.1 hj with rfl | hj
  ·exact hi
  ·exact hb j hj)
 simp at this;omega
theorem loopM{body:σ->M (Step σ ρ)}(m:List ε)(mk:List Nat->τ->σ)(f:τ->ε->M τ)(g:τ->M ρ)(I:List ε->τ->Prop)(Q:ρ->Prop)
  (hb:∀ L t,(∀ i∈L,i < m.length)->body (mk L t)=yM (∀ i∈L,i < m.length) ((nxt m.length L).bind fun o=>match o with
   | none=>(g t).bind fun r=>pure (.done r)
   | some i=>(idx m (Int.ofNat i)).bind fun y=>(f t y).bind fun t'=>pure (.next (mk (L++[i]) t'))))
  (hs:∀ l t y,I l t->l.length < m.length->y∈m->∃ t',f t y=pure t'/\I (l++[y]) t') (he:∀ l t,l.Perm m->I l t->(g t).wp Q) (t0:τ) (h0:I [] t0):(loop body (mk [] t0)).wp Q:=by
 have key:∀ k L t,L.length+k=m.length->L.Nodup->(∀ i∈L,i < m.length)->I (came m L) t->JZ body Q (mk L t):=by
  intro k
  induction k with
  | zero=>
   intro L t hk hn hlt hI;refine WH ?_;rw[hb L t hlt];have hall:∀ i,i < m.length->i∈L:=fun i hi=>full hn hlt (by omega) i hi
   refine⟨hlt,⟨⟨none,hall⟩,fun o ho=>?_⟩⟩
   cases o with
   | none=>
    have:=he _ t (vGa hn hlt hall) hI;exact this
   | some i=>exact absurd (hall i ho.1) ho.2
  | succ k ih=>
   intro L t hk hn hlt hI;refine WH ?_;rw[hb L t hlt];have hex:∃ i,i < m.length/\i∉L:=by
    refine Classical.byContradiction fun hno=>?_
    have hall:∀ i,i < m.length->i∈L:=fun i hi=>Classical.byContradiction fun h=>hno ⟨i,hi,h⟩
    have:=(yua hn hlt hall).length_eq;simp at this;omega
   obtain⟨i0,hi0⟩:=hex;refine⟨hlt,⟨⟨some i0,hi0⟩,fun o ho=>?_⟩⟩
   cases o with
   | none=>exact absurd (ho i0 hi0.1) hi0.2
   | some i=>
    have hi:=List.getElem?_eq_getElem ho.1;obtain⟨t',h1,h2⟩:=hs (came m L) t m[i] hI (by have:=List.length_filterMap_le (fun i=>m[i]?) L;unfold came;omega) (List.getElem_mem ho.1);show((idx m (Int.ofNat i)).bind _).wp _;rw[show(Int.ofNat i)=(i:Int) from rfl,zF hi,zA,h1,zA];refine ih (L++[i]) t' (by simp;omega) ?_ ?_ (by rw[vFa hi];exact h2)
    ·rw[List.nodup_append];refine⟨hn,by simp,fun a ha b hb'=>?_⟩;rw[List.mem_singleton.1 hb'];intro e;exact ho.2 (e▸ha)
    ·intro j hj;rcases List.mem_append.1 hj with hj | hj
     ·exact hlt j hj
     ·rw[List.mem_singleton.1 hj];exact ho.1
 exact key m.length [] t0 (by simp) List.nodup_nil (by simp) h0
end M
namespace AL
variable{κ ν:Type}[DecidableEq κ]
theorem get_set(m:List (κ×ν))(k q:κ)(v:ν):get (set m k v) q=if k=q then some v else get m q:=by
 induction m with
 | nil=>simp[set,get]
 | cons x r ih=>
  obtain⟨a,u⟩:=x
  by_cases h:a=k
  ·subst h;simp only[set,if_true,get];split <;> rfl
  ·simp only[set,h,if_false,get,ih]
   by_cases h2:a=q
   ·subst h2;simp[Ne.symm h]
   ·simp[h2]
theorem getZ_set(m:List (κ×ν))(k q:κ)(v z:ν):getZ (set m k v) q z=if k=q then v else getZ m q z:=by
 unfold getZ;rw[get_set];split <;> rfl
theorem keys_set(m:List (κ×ν))(k:κ)(v:ν):(set m k v).map (·.1)=if k∈m.map (·.1) then m.map (·.1) else m.map (·.1)++[k]:=by
 induction m with
 | nil=>simp[set]
 | cons x r ih=>
  obtain⟨a,u⟩:=x
  by_cases h:a=k
  ·subst h;simp[set]
  ·simp only[set,h,if_false,List.map_cons,ih,List.mem_cons,Ne.symm h,false_or]
   split <;> simp
theorem nodup_set{m:List (κ×ν)}(h:(m.map (·.1)).Nodup)(k:κ)(v:ν):((set m k v).map (·.1)).Nodup:=by
 rw[keys_set]
 split
 ·exact h
 ·rename_i hk
  rw[List.nodup_append];refine⟨h,by simp,fun a ha b hb=>?_⟩;rw[List.mem_singleton.1 hb];intro e;exact hk (e▸ha)
theorem get_none{m:List (κ×ν)}{k:κ}:get m k=none↔k∉m.map (·.1):=by
 induction m with
 | nil=>simp[get]
 | cons x r ih=>
  obtain⟨a,u⟩:=x
  by_cases h:a=k
  ·subst h;simp[get]
  ·simp[get,h,ih,Ne.symm h]
theorem get_mem{m:List (κ×ν)}{k:κ}{v:ν}(h:get m k=some v):(k,v)∈m:=by
 induction m with
 | nil=>simp[get] at h
 | cons x r ih=>
  obtain⟨a,u⟩:=x
  by_cases e:a=k
  ·subst e;simp[get] at h;subst h;simp
  ·simp only[get,e,if_false] at h;exact List.mem_cons_of_mem _ (ih h)
theorem mem_get{m:List (κ×ν)}(hn:(m.map (·.1)).Nodup){k:κ}{v:ν}(h:(k,v)∈m):get m k=some v:=by
 induction m with
 | nil=>simp at h
 | cons x r ih=>
  obtain⟨a,u⟩:=x;simp only[List.map_cons,List.nodup_cons] at hn;rcases List.mem_cons.1 h with e | h
  ·cases e;simp[get]
  ·have:a≠k:=fun e=>hn.1 (e▸List.mem_map.2 ⟨(k,v),h,rfl⟩)
   simp only[get,this,if_false];exact ih hn.2 h
theorem len_set(m:List (κ×ν))(k:κ)(v:ν):(set m k v).length<=m.length+1:=by
 induction m with
 | nil=>simp[set]
 | cons x r ih=>
  obtain⟨a,u⟩:=x;unfold set
  split
  ·simp
  ·simpa using ih
end AL
end Go.Ep
namespace Go.Ep.M.H
open Go
section
variable{κ ν:Type}[DecidableEq κ]
theorem VO{m:List (κ×ν)}(hn:(m.map (·.1)).Nodup)(x:κ)(v:ν)(k:κ×ν):k∈AL.set m x v↔(k∈m/\k.1≠x)\/k=(x,v):=by
 induction m with
 | nil=>simp[AL.set]
 | cons y r ih=>
  obtain⟨q,u⟩:=y;rw[List.map_cons,List.nodup_cons] at hn;unfold AL.set
  split
  ·rename_i e
   subst e;rw[List.mem_cons,List.mem_cons]
   constructor
   ·rintro(h | h)
    ·exact .inr h
    ·exact .inl ⟨.inr h,fun e=>hn.1 (e▸List.mem_map.2 ⟨k,h,rfl⟩)⟩
   ·rintro(⟨h | h,h2⟩ | h)
    ·subst h;exact absurd rfl h2
    ·exact .inr h
    ·exact .inl h
  ·rename_i e
   rw[List.mem_cons,List.mem_cons,ih hn.2]
   constructor
   ·rintro(h | ⟨h,h2⟩ | h)
    ·subst h;exact .inl ⟨.inl rfl,e⟩
    ·exact .inl ⟨.inr h,h2⟩
    ·exact .inr h
   ·rintro(⟨h | h,h2⟩ | h)
    ·exact .inl h
    ·exact .inr (.inl ⟨h,h2⟩)
    ·exact .inr (.inr h)
end
theorem yva{ε ρ:Type}{body:Int->M (Step Int (Ex Unit ρ))}(l:List ε)(p:ε->Bool)(r:ε->ρ)
  (h1:∀ (i:Nat) (x:ε),l[i]?=some x->i < l.length->body (i:Int)=if p x then pure (.done (.ret (r x))) else pure (.next ((i+1:Nat):Int)))
  (h2:body (l.length:Int)=pure (.done (.brk ()))):loop body 0=pure (match l.find? p with | some x=>.ret (r x) | none=>.brk ()):=by
 have key:∀ k i,i+k=l.length->loop body (i:Int)=pure (match (l.drop i).find? p with | some x=>.ret (r x) | none=>.brk ()):=by
  intro k
  induction k with
  | zero=>
   intro i hi;have:i=l.length:=by omega
   subst this;rw[zQ h2,List.drop_length]
   rfl
  | succ k ih=>
   intro i hi;have hlt:i < l.length:=by omega
   have h3:=h1 i l[i] (List.getElem?_eq_getElem hlt) hlt;rw[List.drop_eq_getElem_cons hlt,List.find?_cons]
   by_cases hp:p l[i]=true
   ·rw[if_pos hp] at h3;rw[zQ h3,hp]
   ·rw[if_neg hp] at h3;rw[zb h3,ih (i+1) (by omega)];simp only[hp]
 simpa using key l.length 0 (by omega)
theorem loopE{ε σ ρ τ:Type}{body:σ->M (Step σ ρ)}(l:List ε)(mk:Nat->τ->σ)(I:Nat->τ->Prop)(Q:ρ->Prop)
  (h1:∀ (i:Nat) (x:ε) (t:τ),l[i]?=some x->i < l.length->I i t->∃ t',body (mk i t)=pure (.next (mk (i+1) t'))/\I (i+1) t')
  (h2:∀ t,I l.length t->∃ r,body (mk l.length t)=pure (.done r)/\Q r) (t0:τ) (h0:I 0 t0):∃ r,loop body (mk 0 t0)=pure r/\Q r:=by
 have key:∀ k i t,i+k=l.length->I i t->∃ r,loop body (mk i t)=pure r/\Q r:=by
  intro k
  induction k with
  | zero=>
   intro i t hi hI;have:i=l.length:=by omega
   subst this;obtain⟨r,h3,h4⟩:=h2 t hI;exact⟨r,zQ h3,h4⟩
  | succ k ih=>
   intro i t hi hI;have hlt:i < l.length:=by omega
   obtain⟨t',h3,h4⟩:=h1 i l[i] t (List.getElem?_eq_getElem hlt) hlt hI;rw[zb h3];exact ih (i+1) t' (by omega) h4
 exact key l.length 0 t0 (by omega) h0
def zPa(l:List TMember):Prop:=l.Pairwise fun x y=>x.dev < y.dev
theorem ywa : ∀ {l l':List TMember},zPa l->zPa l'->(∀ d,d∈l↔d∈l')->l=l'
 | [],[],_,_,_=>rfl
 | [],y::r,_,_,h=>by have:=(h y).2 (by simp);simp at this
 | x::r,[],_,_,h=>by have:=(h x).1 (by simp);simp at this
 | x::r,y::t,h1,h2,h=>by
  have hx:=(h x).1 (by simp);have hy:=(h y).2 (by simp);have e:x=y:=by
   rcases List.mem_cons.1 hx with e | hx
   ·exact e
   ·rcases List.mem_cons.1 hy with e | hy
    ·exact e.symm
    ·have a1:=(List.pairwise_cons.1 h2).1 x hx;have a2:=(List.pairwise_cons.1 h1).1 y hy;omega
  subst e
  congr 1
  refine ywa (List.pairwise_cons.1 h1).2 (List.pairwise_cons.1 h2).2 fun d=>?_
  have h3:=h d;simp only[List.mem_cons] at h3
  constructor
  ·intro hd;rcases h3.1 (.inr hd) with e | h4
   ·have:=(List.pairwise_cons.1 h1).1 d hd;rw[e] at this;omega
   ·exact h4
  ·intro hd;rcases h3.2 (.inr hd) with e | h4
   ·have:=(List.pairwise_cons.1 h2).1 d hd;rw[e] at this;omega
   ·exact h4
theorem Qc{l:List TMember}(h:zPa l):(l.map (·.dev)).Nodup:=by
 unfold List.Nodup;rw[List.pairwise_map];exact h.imp fun {a b} h=>by omega
theorem srtM_of{s:List TMember}(hn:(s.map (·.dev)).Nodup)(h:s.Pairwise fun x y=>xP y x=false):zPa s:=by
 unfold List.Nodup at hn;rw[List.pairwise_map] at hn;refine(hn.and h).imp fun {a b} ⟨h1,h2⟩=>?_
 unfold xP at h2;have:=of_decide_eq_false h2;omega
theorem srt_wpM{l:List TMember}{Q:List TMember->Prop}(h:∀ s,s.Perm l->(s.Pairwise fun x y=>xP y x=false)->Q s):(srt xP l).wp Q:=by
 refine⟨⟨l.mergeSort (fun x y=>!xP y x),List.mergeSort_perm _ _,?_⟩,fun s ⟨h1,h2⟩=>h s h1 h2⟩;refine(List.pairwise_mergeSort (fun a b c h1 h2=>?_) (fun a b=>?_) l).imp fun {x y} h=>by simpa using h
 ·simp[xP] at h1 h2 ⊢;omega
 ·simp[xP];omega
def ent(e:TMember):Int×TMember:=(e.dev,e)
theorem z2a{a b:TMember}(h:ent a=ent b):a=b:=(Prod.mk.inj h).2
theorem jA{l:List TMember}{k:Int×TMember}:k∈l.map ent↔k.2∈l/\k.1=k.2.dev:=by
 rw[List.mem_map]
 constructor
 ·rintro⟨e,h,rfl⟩;exact⟨h,rfl⟩
 ·rintro⟨h1,h2⟩;exact⟨k.2,h1,by unfold ent;rw[<- h2]⟩
def Holds(m:List (Int×TMember))(l:List TMember):Prop:=m.Perm (l.map ent)
theorem Holds.keys{m:List (Int×TMember)}{l:List TMember}(h:Holds m l)(hs:zPa l):(m.map (·.1)).Nodup:=by
 have h1:=h.map (·.1);rw[List.map_map] at h1;exact h1.nodup_iff.2 (Qc hs)
theorem Holds.mem{m:List (Int×TMember)}{l:List TMember}(h:Holds m l){k:Int×TMember}:k∈m↔k.2∈l/\k.1=k.2.dev:=by rw[h.mem_iff,jA]
theorem Holds.len{m:List (Int×TMember)}{l:List TMember}(h:Holds m l):m.length=l.length:=by rw[h.length_eq,List.length_map]
theorem jB{l:List TMember}(h:zPa l):(l.map ent).Nodup:=by
 unfold List.Nodup;rw[List.pairwise_map];exact h.imp fun {a b} h e=>by rw[z2a e] at h;omega
theorem qK{m:List (Int×TMember)}{l:List TMember}(hn:(m.map (·.1)).Nodup)(hs:zPa l)(h:∀ k,k∈m↔k.2∈l/\k.1=k.2.dev):Holds m l:=by
 have hm:m.Nodup:=by
  unfold List.Nodup at hn ⊢;rw[List.pairwise_map] at hn;exact hn.imp fun {a b} h e=>h (by rw[e])
 exact(List.perm_ext_iff_of_nodup hm (jB hs)).2 fun k=>by rw[h,jA]
def atD(d:Int)(x:TMember):Bool:=decide (x.dev=d)
theorem Holds.get{m:List (Int×TMember)}{l:List TMember}(h:Holds m l)(hs:zPa l)(d:Int):AL.get m d=l.find? (atD d):=by
 cases hf:l.find? (atD d) with
 | some x=>
  have h1:=List.mem_of_find?_eq_some hf;have h2:x.dev=d:=of_decide_eq_true (p:=x.dev=d) (List.find?_some (p:=atD d) hf);exact AL.mem_get (h.keys hs) (h.mem.2 ⟨h1,h2.symm⟩)
 | none=>
  refine AL.get_none.2 fun hk=>?_
  obtain⟨k,hk1,hk2⟩:=List.mem_map.1 hk;obtain⟨h1,h2⟩:=h.mem.1 hk1;have:=List.find?_eq_none.1 hf k.2 h1;exact this (decide_eq_true (by rw[<- h2,hk2]))
theorem Qd{l:List TMember}(hs:zPa l){a:TMember}(h:∀ x∈l,x.dev < a.dev):zPa (l++[a]):=
 List.pairwise_append.2 ⟨hs,List.pairwise_singleton _ _,fun x hx y hy=>by rw[List.mem_singleton.1 hy];exact h x hx⟩
theorem Holds.snoc{m:List (Int×TMember)}{l:List TMember}(h:Holds m l)(hs:zPa l){a:TMember}(hl:∀ x∈l,x.dev < a.dev):Holds (AL.set m a.dev a) (l++[a]):=
 qK (AL.nodup_set (h.keys hs) _ _) (Qd hs hl) fun k=>by
  rw[VO (h.keys hs),h.mem,List.mem_append,List.mem_singleton]
  constructor
  ·rintro(⟨⟨h1,h2⟩,h3⟩ | h1)
   ·exact⟨.inl h1,h2⟩
   ·subst h1;exact⟨.inr rfl,rfl⟩
  ·rintro⟨h1 | h1,h2⟩
   ·have:=hl k.2 h1;exact .inl ⟨⟨h1,h2⟩,by omega⟩
   ·exact .inr (by rw[<- h1,<- h2])
theorem none_eq(e la:Int)(A:A16)(nl:Bool)(m:List (Int×TMember)):zt e la A nl m=pure (decide (e=0)):=rfl
theorem qL{e:Int}(he:1<=e)(la:Int)(A:A16)(nl:Bool)(m:List (Int×TMember)):zt e la A nl m=pure false:=by
 rw[none_eq,decide_eq_false (by omega)]
theorem Members_eq{e la:Int}{A:A16}{nl:Bool}{m:List (Int×TMember)}{l:List TMember}(he:1<=e)(hm:Holds m l)(hs:zPa l)(hl:l.length<=1000000000):yE e la A nl m=pure l:=by
 unfold yE;rw[qL he,zB,zA];refine uN ?_;show((loop _ _).bind _).wp _;refine M.loopM (body:=xp m) m (fun L (t:List TMember)=>(L,t)) (fun t e=>yM ((t.length+1)*16<=140737488355328) (pure (t++[e.2]))) (fun t=>pure t)
  (fun l t=>t=l.map (·.2)) _ (fun L t hL=>?_) (fun l t y ht hlen hy=>?_) (fun q t hq ht=>?_) [] rfl
 ·show yM _ ((nxt _ _).bind _)=yM _ ((nxt _ _).bind _);refine congrArg (fun k=>yM _ ((nxt _ _).bind k)) (funext fun o=>?_)
  cases o with
  | none=>rfl
  | some i=>rfl
 ·have:=hm.len;subst ht;exact⟨_,zD (by rw[List.length_map];omega) _,by simp⟩
 ·subst ht;have hp:(q.map (·.2)).Perm l:=by
   have:=(hq.trans hm).map (·.2);rw[List.map_map] at this;simpa[Function.comp_def,ent] using this
  show(yM _ _).wp _;rw[zD (by rw[hp.length_eq];omega)];refine srt_wpM fun s h1 h2=>?_
  show s=l;have h3:=h1.trans hp;exact ywa (srtM_of ((h3.map (·.dev)).nodup_iff.2 (Qc hs)) h2) hs fun d=>h3.mem_iff
def zM : TMember:=⟨0,0,0⟩
def fnd(p:TMember->Bool)(l:List TMember):TMember×Bool:=match l.find? p with | some x=>(x,true) | none=>(zM,false)
def atS(s:Int)(x:TMember):Bool:=decide (x.slot=s)
theorem vIa{body:Int->M (Step Int (Ex Unit (TMember×Bool)))}(l:List TMember)(p:TMember->Bool)(hl:l.length<=1000000000)
  (hb:∀ i:Int,body i=cond (decide (i < (l.length:Int))) ((idx l i).bind fun x=>cond (p x) (pure (.done (.ret (x,true)))) (pure (.next (IntKind.i64.wrap (i+1))))) (pure (.done (.brk ())))) :
  (loop body 0).bind (exk fun _=>pure (zM,false))=pure (fnd p l):=by
 rw[yva (body:=body) l p (fun x=>(x,true)) (fun i x hx hi=>?_) ?_]
 ·rw[zA];unfold fnd
  cases l.find? p <;> rfl
 ·rw[hb,decide_eq_false (by omega),cond_false]
 ·rw[hb,decide_eq_true (by omega),cond_true,zF hx,zA,zq (by omega)]
  cases p x <;> rfl
theorem Of_eq{e la:Int}{A:A16}{nl:Bool}{m:List (Int×TMember)}{l:List TMember}(he:1<=e)(hm:Holds m l)(hs:zPa l)(hl:l.length<=1000000000)(s:Int):yk s e la A nl m=pure (fnd (atS s) l):=by
 unfold yk;rw[Members_eq he hm hs hl,zB,zA];exact vIa l (atS s) hl fun i=>rfl
theorem has_eq{m:List (Int×TMember)}{l:List TMember}(hm:Holds m l)(hs:zPa l)(d:Int):AL.has m d=(fnd (atD d) l).2:=by
 unfold AL.has fnd;rw[hm.get hs]
 cases l.find? (atD d) <;> rfl
structure Rep(n:Nat)(x:R26Roster)(m:List (Int×TMember)):Prop where
 e1:1<=x.epoch
 e2:x.epoch<=1000000000000000000
 l1:0<=x.last
 l2:x.last<=65535
 hm:Holds m x.l
 hs:zPa x.l
 hb:∀ a∈x.l,1<=a.dev/\a.dev<=x.last
 len:x.l.length<=n
 n9:n<=1000
theorem Epoch_eq{n:Nat}{x:R26Roster}{m:List (Int×TMember)}(h:Rep n x m):ym x.epoch x.last x.tries false m=pure x.epoch:=by
 unfold ym;rw[qL h.e1,zB,zA,cond_false]
theorem Last_eq{n:Nat}{x:R26Roster}{m:List (Int×TMember)}(h:Rep n x m):yt x.epoch x.last x.tries false m=pure x.last:=by
 unfold yt;rw[qL h.e1,zB,zA,cond_false]
theorem Wk(l:List Int)(h:l.length<=1000000000):zy l=pure l:=by
 unfold zy;refine uN ⟨⟨false,fun h=>by cases h⟩,fun b hb=>?_⟩
 cases b with
 | true=>rw[hb rfl];rfl
 | false=>
  show(yM _ _).wp _;rw[zD (by simp;omega),List.nil_append]
  rfl
theorem Tries_eq{n:Nat}{x:R26Roster}{m:List (Int×TMember)}(h:Rep n x m):yn x.epoch x.last x.tries false m=pure (AR.l x.tries):=by
 unfold yn;rw[qL h.e1,zB,zA,cond_false,Wk _ (by rw[AR.l_len];omega),zB,zA]
def z16 : A16:=(0,0,0,0,0,0,0,0,0,0,0,0,0,0,0,0)
def newR(e la:Int)(A:A16):R26Roster:=⟨e,la,[],A⟩
theorem rep_new{e la:Int}{A:A16}(h1:1<=e)(h2:e<=1000000000000000000)(h3:0<=la)(h4:la<=65535):Rep 0 (newR e la A) []:=
 ⟨h1,h2,h3,h4,List.Perm.refl _,List.Pairwise.nil,fun a (ha:a∈[])=>absurd ha List.not_mem_nil,Nat.le_refl _,by omega⟩
theorem loopB{ε σ β ρ τ:Type}{body:σ->M (Step σ (Ex β ρ))}(l:List ε)(mk:Nat->τ->σ)(g:τ->β)(bad:Nat->ε->Bool)(r:ρ)(I:Nat->τ->Prop)
  (h1:∀ (i:Nat) (x:ε) (t:τ),l[i]?=some x->i < l.length->I i t->(bad i x=true->body (mk i t)=pure (.done (.ret r)))/\(bad i x=false->∃ t',body (mk i t)=pure (.next (mk (i+1) t'))/\I (i+1) t'))
  (h2:∀ t,I l.length t->body (mk l.length t)=pure (.done (.brk (g t)))) (t0:τ) (h0:I 0 t0) :
  (l.zipIdx.any (fun y=>bad y.2 y.1)=true/\loop body (mk 0 t0)=pure (.ret r))\/(l.zipIdx.any (fun y=>bad y.2 y.1)=false/\∃ t,loop body (mk 0 t0)=pure (.brk (g t))/\I l.length t):=by
 have key:∀ k i t,i+k=l.length->I i t->(((l.drop i).zipIdx i).any (fun y=>bad y.2 y.1)=true/\loop body (mk i t)=pure (.ret r))\/(((l.drop i).zipIdx i).any (fun y=>bad y.2 y.1)=false/\∃ t',loop body (mk i t)=pure (.brk (g t'))/\I l.length t'):=by
  intro k
  induction k with
  | zero=>
   intro i t hi hI;have:i=l.length:=by omega
   subst this;rw[List.drop_length];exact .inr ⟨rfl,t,zQ (h2 t hI),hI⟩
  | succ k ih=>
   intro i t hi hI;have hlt:i < l.length:=by omega
   obtain⟨h3,h4⟩:=h1 i l[i] t (List.getElem?_eq_getElem hlt) hlt hI;rw[List.drop_eq_getElem_cons hlt,List.zipIdx_cons,List.any_cons]
   cases hp:bad i l[i] with
   | true=>exact .inl ⟨rfl,zQ (h3 hp)⟩
   | false=>
    obtain⟨t',h5,h6⟩:=h4 hp;rw[zb h5,Bool.false_or];exact ih (i+1) t' (by omega) h6
 simpa using key l.length 0 t0 (by omega) h0
theorem over_l{A:A16}{L:List Int}(h:L.length=16):AR.l (AR.over A L)=L:=by
 rw[AR.l_over,List.take_of_length_le (by omega),h,List.drop_eq_nil_of_le (by rw[AR.l_len];omega),List.append_nil]
theorem over_get{A:A16}{L:List Int}(h:L.length=16)(i:Nat):AR.get (AR.over A L) i=L.getD i 0:=by
 unfold AR.get;rw[over_l h]
def bad1(la:Int)(l:List TMember)(i:Nat)(x:TMember):Bool:=decide (x.dev=0)||(decide (la < x.dev)||(decide (0 < i)&&decide (x.dev<=(l.getD (i - 1) zM).dev)))
def bad2(tr:List Int)(x:TMember):Bool:=decide (16<=x.slot)||(decide (x.try_=0)||!decide (tr.getD x.slot.toNat 0=x.try_))
def jo(la:Int)(l:List TMember)(tr:List Int)(i:Nat)(x:TMember):Bool:=bad1 la l i x||(bad2 tr x||(fnd (atS x.slot) (l.take i)).2)
def head0(e:Int)(tr:List Int):Bool:=decide (e=0)||(decide (281474976710655 < e)||!decide ((tr.length:Int)=16))
def fromB(e la:Int)(l:List TMember)(tr:List Int):Bool:=!(head0 e tr)&&!(l.zipIdx.any fun y=>jo la l tr y.2 y.1)
theorem vJa(a b c:Bool):(cond a (pure true) (cond b (pure true) (pure c)):M Bool)=pure (a||(b||c)):=by cases a <;> cases b <;> rfl
theorem vb{ε:Type}{l:List ε}{i:Nat}{x:ε}(h:l[i]?=some x):l.take (i+1)=l.take i++[x]:=by
 obtain⟨hlt,rfl⟩:=List.getElem?_eq_some_iff.1 h;exact List.take_append_getElem hlt▸rfl
theorem b1_eq{la:Int}{l:List TMember}{i:Nat}{x:TMember}(hi:i < l.length)(hl:l.length<=1000){c:M Bool} :
  (cond (decide (x.dev=0)) (pure true) (cond (decide (la < x.dev)) (pure true) (cond (decide ((0:Int) < (i:Int))) ((idx l (IntKind.i64.wrap ((i:Int) - 1))).bind fun x61=>cond (decide (x.dev<=x61.dev)) (pure true) c) c)):M Bool)=cond (bad1 la l i x) (pure true) c:=by
 unfold bad1
 cases decide (x.dev=0) with
 | true=>rfl
 | false=>
  cases decide (la < x.dev) with
  | true=>rfl
  | false=>
   rw[cond_false,cond_false,Bool.false_or,Bool.false_or]
   by_cases h0:0 < i
   ·have hw:IntKind.i64.wrap ((i:Int) - 1)=((i - 1:Nat):Int):=by rw[ue (by omega) (by omega)];omega
    have hg:l[i - 1]?=some (l.getD (i - 1) zM):=by
     rw[List.getD_eq_getElem?_getD,List.getElem?_eq_getElem (by omega)];rfl
    rw[decide_eq_true (by omega),decide_eq_true h0,cond_true,hw,zF hg,zA,Bool.true_and]
   ·rw[decide_eq_false (by omega),decide_eq_false h0,cond_false,Bool.false_and,cond_false]
theorem rFrom_eq{e la:Int}{l:List TMember}{tr:List Int}(hl:l.length<=1000)(hsl:∀ x∈l,0<=x.slot):Vz e la l tr=pure (fromB e la l tr):=by
 unfold Vz fromB head0;rw[vJa,zA]
 cases hh:decide (e=0)||(decide (281474976710655 < e)||!decide ((tr.length:Int)=16)) with
 | true=>rfl
 | false=>
  have h16:tr.length=16:=by
   rw[Bool.or_eq_false_iff,Bool.or_eq_false_iff,Bool.not_eq_false'] at hh;have:=of_decide_eq_true hh.2.2;omega
  rw[cond_false,Bool.not_false,Bool.true_and];have key:=loopB (body:=Xs l la tr) l (fun i (_:Unit)=>(i:Int)) (fun _=>()) (jo la l tr) false (fun _ _=>True) (fun i x t hx hi _=>?_) (fun t _=>?_) () trivial
  ·rcases key with⟨h1,h2⟩ | ⟨h1,t,h2,_⟩
   ·rw[show((0:Nat):Int)=0 from rfl] at h2;rw[h2,h1];rfl
   ·rw[show((0:Nat):Int)=0 from rfl] at h2;rw[h2,h1];rfl
  ·have hs:=hsl x (List.mem_of_getElem? hx);have hb2:(cond (decide (16<=x.slot)) (pure true) (cond (decide (x.try_=0)) (pure true) ((idx tr x.slot).bind fun x89=>pure (!decide (x89=x.try_)))):M Bool)=pure (bad2 tr x):=by
    unfold bad2
    cases hc:decide (16<=x.slot) with
    | true=>rfl
    | false=>
     have:=of_decide_eq_false hc;have hg:tr[x.slot.toNat]?=some (tr.getD x.slot.toNat 0):=by
      rw[List.getD_eq_getElem?_getD,List.getElem?_eq_getElem (by omega)];rfl
     rw[cond_false,YO hs hg,zA,YN,Bool.false_or]
   have hbody:Xs l la tr (i:Int)=M.bind (cond (jo la l tr i x) (pure (.ret (.done (.ret false)))) (pure (.brk ()))) (exk fun _=>pure (.next (IntKind.i64.wrap ((i:Int)+1)))):=by
    show cond (decide ((i:Int) < (l.length:Int))) _ _=_;rw[decide_eq_true (by omega),cond_true,zF hx,zA];refine congrArg (fun z=>M.bind z _) ?_;rw[hb2,b1_eq hi hl];unfold jo
    cases bad1 la l i x with
    | true=>rfl
    | false=>
     rw[cond_false,zA]
     cases bad2 tr x with
     | true=>rfl
     | false=>
      rw[cond_false,Bool.false_or,Bool.false_or];have hti:(l.take i).length=i:=by rw[List.length_take];omega
      rw[yva (body:=Um (i:Int) l x) (l.take i) (atS x.slot) (fun _=>.done (.ret false)) (fun k y hy hk=>?_) ?_]
      ·unfold fnd
       cases (l.take i).find? (atS x.slot) <;> rfl
      ·rw[hti];show cond (decide ((i:Int) < (i:Int))) _ _=_;rw[decide_eq_false (by omega)];rfl
      ·rw[hti] at hk;rw[List.getElem?_take,if_pos hk] at hy;show cond (decide ((k:Int) < (i:Int))) _ _=_;rw[decide_eq_true (by omega),cond_true,zF hy,zA,zq (by omega)];show cond (atS x.slot y) _ _=_
       cases atS x.slot y <;> rfl
   rw[hbody]
   constructor
   ·intro h;rw[h];rfl
   ·intro h;rw[h];exact⟨(),by rw[cond_false,zA,Ze,zq (by omega)],trivial⟩
  ·show cond (decide ((l.length:Int) < (l.length:Int))) _ _=_;rw[decide_eq_false (by omega)];rfl
theorem From_eq{e la:Int}{l:List TMember}{tr:List Int}(he:0<=e)(h0:0<=la)(h1:la<=65535)(hl:l.length<=900)(hd:∀ x∈l,0<=x.dev/\0<=x.slot) :
  (fromB e la l tr=false/\wi e la l tr=pure (.inl ()))\/(fromB e la l tr=true/\tr.length=16/\∃ m,wi e la l tr=pure (.inr (e,la,AR.over z16 tr,false,m))/\Rep l.length ⟨e,la,l,AR.over z16 tr⟩ m):=by
 unfold wi fromB head0;rw[vJa,zA]
 cases hh:decide (e=0)||(decide (281474976710655 < e)||!decide ((tr.length:Int)=16)) with
 | true=>exact .inl ⟨rfl,rfl⟩
 | false=>
  rw[Bool.or_eq_false_iff,Bool.or_eq_false_iff,Bool.not_eq_false'] at hh;have h16:tr.length=16:=by
   have:=of_decide_eq_true hh.2.2;omega
  have he0:=of_decide_eq_false hh.1;have he1:=of_decide_eq_false hh.2.1;rw[cond_false,Bool.not_false,Bool.true_and,show vW=pure (1,0,z16,false,[]) from rfl,zB,zA];have key:=loopB (body:=vd l la (1,0,z16,false,[]) tr e) l (fun i (m:List (Int×TMember))=>((i:Int),m)) (fun m=>m) (jo la l tr) (.inl ())
   (fun i m=>Holds m (l.take i)/\zPa (l.take i)/\∀ a∈l.take i,1<=a.dev/\a.dev<=la) (fun i x m hx hi hI=>?_) (fun m _=>?_) [] ⟨List.Perm.refl _,by rw[List.take_zero];exact List.Pairwise.nil,fun a ha=>by rw[List.take_zero] at ha;cases ha⟩
  ·rcases key with⟨k1,k2⟩ | ⟨k1,m,k2,k3,k4,k5⟩
   ·refine .inl ⟨by rw[k1];rfl,?_⟩;rw[show((0:Nat):Int)=0 from rfl] at k2;show M.bind (loop _ (0,[])) _=_;rw[k2];rfl
   ·rw[List.take_length] at k3 k4 k5;refine .inr ⟨by rw[k1];rfl,h16,m,?_,by show 1<=e;omega,by show e<=_;omega,h0,h1,k3,k4,k5,Nat.le_refl _,by show l.length<=1000;omega⟩;rw[show((0:Nat):Int)=0 from rfl] at k2;show M.bind (loop _ (0,[])) _=_;rw[k2];rfl
  ·obtain⟨hm,hs,hb⟩:=hI;have hx2:=hd x (List.mem_of_getElem? hx);have hti:(l.take i).length=i:=by rw[List.length_take];omega
   have hbody:vd l la (1,0,z16,false,[]) tr e ((i:Int),m)=cond (jo la l tr i x) (pure (.done (.ret (.inl ())))) (pure (.next (((i+1:Nat):Int),AL.set m x.dev x))):=by
    show cond (decide ((i:Int) < (l.length:Int))) _ _=_;rw[decide_eq_true (by omega),cond_true,zF hx,zA];have hb1:=b1_eq (la:=la) (x:=x) hi (by omega) (c:=pure false);have hb2:(cond (decide (16<=x.slot)) (pure true) (cond (decide (x.try_=0)) (pure true) (yM ((0:Int)<=x.slot/\x.slot < ((16:Nat):Int)) (pure (!decide (AR.get (AR.over z16 tr) x.slot.toNat=x.try_))))):M Bool)=pure (bad2 tr x):=by
     unfold bad2
     cases hc:decide (16<=x.slot) with
     | true=>rfl
     | false=>
      have:=of_decide_eq_false hc;rw[cond_false,zD ⟨hx2.2,by omega⟩,over_get h16,YN,Bool.false_or]
    have hb1':(cond (decide (x.dev=0)) (pure true) (cond (decide (la < x.dev)) (pure true) (cond (decide ((0:Int) < (i:Int))) ((idx l (IntKind.i64.wrap ((i:Int) - 1))).bind fun x61=>pure (decide (x.dev<=x61.dev))) (pure false))):M Bool)=pure (bad1 la l i x):=by
     rw[show(cond (bad1 la l i x) (pure true) (pure false):M Bool)=pure (bad1 la l i x) by cases bad1 la l i x <;> rfl] at hb1;rw[<- hb1]
     congr 3
     refine congrArg (fun z=>M.bind _ z) (funext fun y=>?_)
     cases decide (x.dev<=y.dev) <;> rfl
    show M.bind (cond (decide (x.dev=0)) _ _) _=_;rw[hb1',zA];unfold jo
    cases bad1 la l i x with
    | true=>rfl
    | false=>
     show M.bind (cond (decide (16<=x.slot)) _ _) _=_;rw[hb2,zA]
     cases bad2 tr x with
     | true=>rfl
     | false=>
      show M.bind (det (yk _ _ _ _ _ _)) _=_;rw[Of_eq (by omega) hm hs (by rw[hti];omega),zB,zA];show cond (fnd (atS x.slot) (l.take i)).2 _ _=_;rw[zD rfl,zq (by omega)]
      rfl
   rw[hbody]
   constructor
   ·intro h;rw[h];rfl
   ·intro h;rw[h];refine⟨AL.set m x.dev x,rfl,?_⟩;unfold jo bad1 at h;simp only[Bool.or_eq_false_iff] at h;have d0:=of_decide_eq_false h.1.1;have d1:=of_decide_eq_false h.1.2.1;have d2:=h.1.2.2;have hlast:∀ y∈l.take i,y.dev < x.dev:=fun y hy=>by
     have hi0:0 < i:=by
      rcases Nat.eq_zero_or_pos i with h | h
      ·subst h;rw[List.take_zero] at hy;cases hy
      ·exact h
     rw[decide_eq_true hi0,Bool.true_and] at d2;have d3:=of_decide_eq_false d2;have hg:l[i - 1]?=some (l.getD (i - 1) zM):=by
      rw[List.getD_eq_getElem?_getD,List.getElem?_eq_getElem (by omega)];rfl
     have e1:=vb hg;rw[Nat.sub_add_cancel hi0] at e1;rw[e1] at hy hs;rcases List.mem_append.1 hy with hy | hy
     ·have:=(List.pairwise_append.1 hs).2.2 y hy _ (List.mem_singleton.2 rfl);omega
     ·rw[List.mem_singleton.1 hy];omega
    rw[vb hx];exact⟨hm.snoc hs hlast,Qd hs hlast,fun a ha=>by
     rcases List.mem_append.1 ha with ha | ha
     ·exact hb a ha
     ·rw[List.mem_singleton.1 ha];omega⟩
  ·show cond (decide ((l.length:Int) < (l.length:Int))) _ _=_;rw[decide_eq_false (by omega)];rfl
theorem copy_loop{body:Int×A16->M (Step (Int×A16) A16)}(tr:List Int)(h16:tr.length=16)
  (hb:∀ (i:Int) (A:A16),body (i,A)=cond (decide (i < 16)) ((idx tr i).bind fun x=>yM ((0:Int)<=i/\i < ((16:Nat):Int)) (pure (.next (IntKind.i64.wrap (i+1),AR.set A i.toNat x)))) (pure (.done A))):loop body (0,z16)=pure (AR.over z16 tr):=by
 have key:=loopE (body:=body) tr (fun i (A:A16)=>((i:Int),A)) (fun i A=>∀ j,j < i->AR.get A j=tr.getD j 0) (fun A=>AR.l A=tr) (fun i x A hx hi hI=>?_) (fun A hI=>?_) z16 (fun j hj=>by omega)
 ·obtain⟨r,h1,h2⟩:=key;rw[show((0:Int),z16)=(((0:Nat):Int),z16) from rfl,h1]
  congr 1
  exact AR.l_inj (by rw[h2,over_l h16])
 ·refine⟨AR.set A i x,?_,fun j hj=>?_⟩
  ·show body ((i:Int),A)=_;rw[hb,decide_eq_true (by omega),cond_true,zF hx,zA,zD (by omega),zq (by omega),Int.toNat_natCast]
  ·rw[AR.get_set (by omega)]
   by_cases hij:i=j
   ·rw[if_pos hij,<- hij,List.getD_eq_getElem?_getD,hx];rfl
   ·rw[if_neg hij];exact hI j (by omega)
 ·refine⟨A,?_,?_⟩
  ·show body ((tr.length:Int),A)=_;rw[hb,decide_eq_false (by omega),cond_false]
  ·refine List.ext_getElem? fun j=>?_
   by_cases hj:j < 16
   ·rw[AR.get_lt hj,hI j (by omega),List.getD_eq_getElem?_getD,List.getElem?_eq_getElem (by omega)];rfl
   ·rw[List.getElem?_eq_none (by rw[AR.l_len];omega),List.getElem?_eq_none (by omega)]
structure Gone(g:List Bool)(x:R26Roster):Prop where
 len:g.length=65536
 on:∀ d:Nat,g[d]?=some true->(d:Int)<=x.last/\∀ a∈x.l,a.dev≠d
theorem Gone.sub{g:List Bool}{x x':R26Roster}(h:Gone g x)(h1:x.last<=x'.last)(h2:∀ a∈x'.l,a∈x.l\/x.last < a.dev):Gone g x':=
 ⟨h.len,fun d hd=>by
  obtain⟨h3,h4⟩:=h.on d hd;refine⟨by omega,fun a ha=>?_⟩;rcases h2 a ha with h5 | h5
  ·exact h4 a h5
  ·omega⟩
theorem Gone.put{g:List Bool}{x':R26Roster}(h:Gone g x'){d:Int}(h0:0<=d)(h1:d<=x'.last)(h2:∀ a∈x'.l,a.dev≠d):Gone (g.set d.toNat true) x':=
 ⟨by rw[List.length_set];exact h.len,fun q hq=>by
  rw[List.getElem?_set] at hq
  split at hq
  ·rename_i e;subst e
   refine⟨by omega,fun a ha e=>h2 a ha (by omega)⟩
  ·exact h.on q hq⟩
end Go.Ep.M.H
namespace Go.Ep.M.V
open Go
def yJ(d:DT):Bool:=decide (1<=d.dev)&&(decide (1<=d.n)&&decide (d.n<=281474976710655))
theorem uf{d:DT}:yJ d=true↔1<=d.dev/\1<=d.n/\d.n<=281474976710655:=by simp[yJ]
theorem ug(d:DT):uv d=pure (yJ d):=by
 unfold uv;rw[zj,zj,zA];refine congrArg pure ?_;rw[Bool.eq_iff_iff,uf];simp only[Bool.and_eq_true,decide_eq_true_eq];omega
theorem vG(d:DT):vP d=pure (yJ d):=by
 unfold vP;rw[zj,zj,zA];refine congrArg pure ?_;rw[Bool.eq_iff_iff,uf];simp only[Bool.and_eq_true,decide_eq_true_eq];omega
def ofV : List DT->Int->Int
 | [],_=>0
 | d::r,dev=>if d.dev=dev/\yJ d=true then max d.n (ofV r dev) else ofV r dev
theorem vKa(v:List DT)(dev:Int):0<=ofV v dev/\ofV v dev<=281474976710655:=by
 induction v with
 | nil=>simp[ofV]
 | cons d r ih=>
  simp only[ofV]
  split
  ·rename_i h;have:=uf.1 h.2;omega
  ·exact ih
theorem ofV_pos{v:List DT}{dev:Int}:0 < ofV v dev↔∃ d∈v,d.dev=dev/\yJ d=true:=by
 induction v with
 | nil=>simp[ofV]
 | cons d r ih=>
  simp only[ofV,List.mem_cons,exists_eq_or_imp]
  split
  ·rename_i h
   have:=uf.1 h.2
   constructor
   ·intro _;exact .inl h
   ·intro _;omega
  ·rename_i h
   rw[ih]
   constructor
   ·exact .inr
   ·rintro(hh | hh)
    ·exact absurd hh h
    ·exact hh
def jf : List Int->Int->List Int
 | [],k=>[k]
 | a::r,k=>if k < a then k::a::r else if k=a then a::r else a::jf r k
theorem UM{l:List Int}{k q:Int}:q∈jf l k↔q=k\/q∈l:=by
 induction l with
 | nil=>simp[jf]
 | cons a r ih=>
  unfold jf
  split
  ·simp
  ·split
   ·rename_i h;subst h;simp
   ·simp only[List.mem_cons,ih];constructor
    ·rintro(h | h | h) <;> simp[h]
    ·rintro(h | h | h) <;> simp[h]
theorem uh{l:List Int}(h:l.Pairwise (· < ·))(k:Int):(jf l k).Pairwise (· < ·):=by
 induction l with
 | nil=>simp[jf]
 | cons a r ih=>
  obtain⟨h1,h2⟩:=List.pairwise_cons.1 h;unfold jf
  split
  ·rename_i hk
   refine List.pairwise_cons.2 ⟨fun x hx=>?_,h⟩;rcases List.mem_cons.1 hx with rfl | hx
   ·exact hk
   ·have:=h1 x hx;omega
  ·split
   ·exact h
   ·refine List.pairwise_cons.2 ⟨fun x hx=>?_,ih h2⟩;rcases UM.1 hx with rfl | hx
    ·omega
    ·exact h1 x hx
theorem Wl(l : List Int)(k : Int) : (jf l k).length<=l.length+1 := by
  induction l with
  | nil => simp[jf]
  | cons a r ih => unfold jf; split <;> try split
                   all_goals simp_all
def Zw(l:List Int)(d:DT):List Int:=if yJ d then jf l d.dev else l
def devsL(v:List DT):List Int:=v.foldl Zw []
theorem Wm(v:List DT):∀ l:List Int,l.Pairwise (· < ·)->(v.foldl Zw l).Pairwise (· < ·)/\(∀ k,k∈v.foldl Zw l↔k∈l\/∃ d∈v,d.dev=k/\yJ d=true)/\(v.foldl Zw l).length<=l.length+v.length:=by
 induction v with
 | nil=>intro l h;simp[h]
 | cons d r ih=>
  intro l h;simp only[List.foldl_cons];unfold Zw
  split
  ·rename_i hg
   obtain⟨h1,h2,h3⟩:=ih _ (uh h d.dev);refine⟨h1,fun k=>?_,?_⟩
   ·have:=h2 k;unfold Zw at this;rw[this,UM]
    constructor
    ·rintro((rfl | h) | ⟨e,he,h⟩)
     ·exact .inr ⟨d,by simp,rfl,hg⟩
     ·exact .inl h
     ·exact .inr ⟨e,by simp[he],h⟩
    ·rintro(h | ⟨e,he,h⟩)
     ·exact .inl (.inr h)
     ·rcases List.mem_cons.1 he with rfl | he
      ·exact .inl (.inl h.1.symm)
      ·exact .inr ⟨e,he,h⟩
   ·have:=Wl l d.dev;simp only[List.length_cons];unfold Zw at h3;omega
  ·rename_i hg
   obtain⟨h1,h2,h3⟩:=ih _ h;refine⟨h1,fun k=>?_,?_⟩
   ·have:=h2 k;unfold Zw at this;rw[this]
    constructor
    ·rintro(h | ⟨e,he,h⟩)
     ·exact .inl h
     ·exact .inr ⟨e,by simp[he],h⟩
    ·rintro(h | ⟨e,he,h⟩)
     ·exact .inl h
     ·rcases List.mem_cons.1 he with rfl | he
      ·exact absurd h.2 hg
      ·exact .inr ⟨e,he,h⟩
   ·simp only[List.length_cons];unfold Zw at h3;omega
theorem vA{v:List DT}{k:Int}:k∈devsL v↔0 < ofV v k:=by rw[ofV_pos];simpa[devsL] using (Wm v [] List.Pairwise.nil).2.1 k
def uC(m:List (Int×Int))(d:DT):List (Int×Int):=if yJ d then AL.set m d.dev (max (AL.getZ m d.dev 0) d.n) else m
def Yh(v:List DT):List (Int×Int):=v.foldl uC []
theorem qM(v:List DT):∀ m:List (Int×Int),(m.map (·.1)).Nodup->((v.foldl uC m).map (·.1)).Nodup/\((∀ k,0<=AL.getZ m k 0)->∀ k,AL.getZ (v.foldl uC m) k 0=max (AL.getZ m k 0) (ofV v k))/\(v.foldl uC m).length<=m.length+v.length/\(∀ k,k∈(v.foldl uC m).map (·.1)->k∈m.map (·.1)\/0 < ofV v k):=by
 induction v with
 | nil=>
  intro m h;refine⟨h,fun h0 k=>?_,by simp,fun k hk=>.inl hk⟩;have:=h0 k;simp only[List.foldl_nil,ofV];omega
 | cons d r ih=>
  intro m h;simp only[List.foldl_cons]
  by_cases hg:yJ d=true
  ·have hd:=uf.1 hg;have e:uC m d=AL.set m d.dev (max (AL.getZ m d.dev 0) d.n):=by simp[uC,hg]
   rw[e];obtain⟨h1,h2,h3,h4⟩:=ih _ (AL.nodup_set h d.dev (max (AL.getZ m d.dev 0) d.n));refine⟨h1,fun h0 k=>?_,?_,fun k hk=>?_⟩
   ·rw[h2 (fun q=>by rw[AL.getZ_set];have:=h0 q;have:=h0 d.dev;split <;> omega),AL.getZ_set];simp only[ofV]
    by_cases hk:d.dev=k
    ·subst hk;simp only[if_true,hg,and_self];omega
    ·simp[hk]
   ·have:=AL.len_set m d.dev (max (AL.getZ m d.dev 0) d.n);simp only[List.length_cons];omega
   ·simp only[ofV];rcases h4 k hk with h5 | h5
    ·rw[AL.keys_set] at h5
     split at h5
     ·exact .inl h5
     ·rcases List.mem_append.1 h5 with h5 | h5
      ·exact .inl h5
      ·right
       rw[List.mem_singleton.1 h5,if_pos ⟨rfl,hg⟩];omega
    ·right;split <;> omega
  ·have e:uC m d=m:=by simp[uC,hg]
   rw[e];obtain⟨h1,h2,h3,h4⟩:=ih m h;have e2:∀ k,ofV (d::r) k=ofV r k:=fun k=>by simp only[ofV];rw[if_neg (fun hh=>hg hh.2)]
   exact⟨h1,fun h0 k=>by rw[h2 h0,e2],by simp only[List.length_cons];omega,fun k hk=>by rw[e2];exact h4 k hk⟩
theorem XW(v:List DT):((Yh v).map (·.1)).Nodup:=(qM v [] (by simp)).1
theorem Wn(v:List DT)(k:Int):AL.getZ (Yh v) k 0=ofV v k:=by
 have:=(qM v [] (by simp)).2.1 (fun _=>Int.le_refl _) k;have h2:=vKa v k;rw[Yh,this];show max 0 (ofV v k)=_;omega
theorem qO{v:List DT}{k n:Int}(h:(k,n)∈Yh v):n=ofV v k/\0 < n:=by
 have h1:=AL.mem_get (XW v) h;have h2:AL.getZ (Yh v) k 0=n:=by simp[AL.getZ,h1]
 rw[Wn] at h2;have h3:=(qM v [] (by simp)).2.2.2 k (List.mem_map.2 ⟨_,h,rfl⟩);simp at h3;omega
def z3a(a b:DT):Int:=if a=b then 0 else if zU a b then -1 else 1
theorem ZX(a b:DT):ZE a b=pure (z3a a b):=by
 unfold ZE z3a;have h1:(decide (a.dev=b.dev)&&decide (a.n=b.n))=decide (a=b):=by
  rw[Bool.eq_iff_iff];cases a;cases b;simp
 have h2:(cond (decide (a.dev < b.dev)) (pure true) (cond (decide (a.dev=b.dev)) (pure (decide (a.n < b.n))) (pure false)):M Bool)=pure (zU a b):=by
  rw[zj,YN];rfl
 rw[h1,h2,yu,zA]
 split
 ·rfl
 ·cases zU a b <;> rfl
theorem UN{a b:DT}:z3a a b < 0↔zU a b=true:=by
 unfold z3a
 split
 ·rename_i h;subst h;simp[zU]
 ·split <;> simp_all
theorem cmpD_pos{a b:DT}:0 < z3a a b↔zU b a=true:=by
 unfold z3a
 by_cases h:a=b
 ·subst h;simp[zU]
 ·rw[if_neg h]
  cases a;cases b
  simp only[DT.mk.injEq] at h;simp only[zU,Bool.or_eq_true,Bool.and_eq_true,decide_eq_true_eq]
  split <;> omega
theorem VP(l:List DT)(d:DT)(h:l.length<=1000000000000):ZF l d=pure ((l.filter fun x=>zU x d)++[d]++(l.filter fun x=>zU d x)):=by
 unfold ZF;have c0:∀ o:List DT,o.length<=1000000000000->True:=fun _ _=>trivial
 have h1:=ZW (body:=XJ l d) l (fun i (o:List DT)=>((i:Int),o)) (fun o x=>if zU x d then o++[x] else o) (fun o=>pure o) (fun i o=>o.length<=i) (fun i x o hx hi ho=>by
  have h1:decide ((i:Int) < (l.length:Int))=true:=by simpa using hi
  unfold XJ;simp only[h1,cond_true,zF hx,zA,ZX,zB,zq (show i < 9223372036854775807 by omega),yu,UN]
  split
  ·rw[zD (by simp;omega)];exact⟨rfl,by simp;omega⟩
  ·exact⟨rfl,by omega⟩) (fun o _=>by unfold XJ;simp[zA]) [] (by simp)
 have h2:∀ o0:List DT,o0.length<=1000000000001->loop (ZP l d) (0,o0)=pure (l.foldl (fun o x=>if zU d x then o++[x] else o) o0):=fun o0 ho0=>by
  have:=ZW (body:=ZP l d) l (fun i (o:List DT)=>((i:Int),o)) (fun o x=>if zU d x then o++[x] else o) (fun o=>pure o) (fun i o=>o.length<=o0.length+i) (fun i x o hx hi ho=>by
   have h1:decide ((i:Int) < (l.length:Int))=true:=by simpa using hi
   unfold ZP;simp only[h1,cond_true,zF hx,zA,ZX,zB,zq (show i < 9223372036854775807 by omega),yu,cmpD_pos]
   split
   ·rw[zD (by simp;omega)];exact⟨rfl,by simp;omega⟩
   ·exact⟨rfl,by omega⟩) (fun o _=>by unfold ZP;simp[zA]) o0 (by simp)
  exact this
 have hf:∀ (p:DT->Bool) (l o:List DT),l.foldl (fun o x=>if p x then o++[x] else o) o=o++l.filter p:=by
  intro p l
  induction l with
  | nil=>simp
  | cons x r ih=>
   intro o;rw[List.foldl_cons,ih,List.filter_cons]
   split <;> simp
 rw[show((0:Int),([]:List DT))=(((0:Nat):Int),[]) from rfl,h1,hf,zA,zD,h2,hf,zA]
 ·rfl
 ·have:=List.length_filter_le (fun x=>zU x d) l;simp;omega
 ·have:=List.length_filter_le (fun x=>zU x d) l;simp;omega
def Xe(l:List Int):List DT:=l.map fun k=>⟨k,1⟩
theorem yxa{l:List Int}(h:l.Pairwise (· < ·))(k:Int):((Xe l).filter fun x=>zU x ⟨k,1⟩)++[⟨k,1⟩]++((Xe l).filter fun x=>zU ⟨k,1⟩ x)=Xe (jf l k):=by
 induction l with
 | nil=>rfl
 | cons a r ih=>
  obtain⟨h1,h2⟩:=List.pairwise_cons.1 h;have i2:=ih h2;unfold jf
  by_cases c1:k < a
  ·rw[if_pos c1];have e1:(Xe (a::r)).filter (fun x=>zU x ⟨k,1⟩)=[]:=by
    rw[List.filter_eq_nil_iff];intro x hx;simp only[Xe,List.map_cons,List.mem_cons,List.mem_map] at hx;rcases hx with rfl | ⟨b,hb,rfl⟩
    ·simp[zU];omega
    ·have:=h1 b hb;simp[zU];omega
   have e2:(Xe (a::r)).filter (fun x=>zU ⟨k,1⟩ x)=Xe (a::r):=by
    rw[List.filter_eq_self];intro x hx;simp only[Xe,List.map_cons,List.mem_cons,List.mem_map] at hx;rcases hx with rfl | ⟨b,hb,rfl⟩
    ·simp[zU];omega
    ·have:=h1 b hb;simp[zU];omega
   rw[e1,e2];rfl
  ·rw[if_neg c1]
   by_cases c2:k=a
   ·subst c2;rw[if_pos rfl];have e1:(Xe (k::r)).filter (fun x=>zU x ⟨k,1⟩)=[]:=by
     rw[List.filter_eq_nil_iff];intro x hx;simp only[Xe,List.map_cons,List.mem_cons,List.mem_map] at hx;rcases hx with rfl | ⟨b,hb,rfl⟩
     ·simp[zU]
     ·have:=h1 b hb;simp[zU];omega
    have e2:(Xe (k::r)).filter (fun x=>zU ⟨k,1⟩ x)=Xe r:=by
     show List.filter _ (⟨k,1⟩::Xe r)=_;rw[List.filter_cons,if_neg (by simp[zU]),List.filter_eq_self];intro x hx;simp only[Xe,List.mem_map] at hx;obtain⟨b,hb,rfl⟩:=hx;have:=h1 b hb;simp[zU];omega
    rw[e1,e2];rfl
   ·rw[if_neg c2];show(List.filter _ (⟨a,1⟩::Xe r))++_++(List.filter _ (⟨a,1⟩::Xe r))=⟨a,1⟩::Xe (jf r k);rw[List.filter_cons,if_pos (by simp[zU];omega),List.filter_cons,if_neg (by simp[zU];omega),<- i2]
    rfl
end Go.Ep.M.V
