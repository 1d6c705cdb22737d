/- Side texts. -/
import Derived.Test.YtnejkopjonigeaaGreatAHg3
import Derived.Test.YtnejkopjonigeaaGreatAHg4
import Derived.Test.YtnejkopjonigeaaGreatAHg5
import Derived.Test.YtnejkopjonigeaaGreatAHg6
import Derived.Test.YtnejkopjonigeaaGreatAHg7
import Derived.Test.YtnejkopjonigeaaGreatAHg8
import Derived.Test.YtnejkopjonigeaaGreatAHg9
set_option linter.unusedVariables false
set_option linter.unusedSimpArgs false
namespace Go.Proofs
open Go.Ep Tryz
set_option maxHeartbeats 1000000
set_option maxRecDepth 100000
set_option linter.unusedVariables false
set_option linter.unusedSimpArgs false
theorem ZRa{c1 d2 r0}(h:(yEa c1 d2).wp (·=r0)):PFun prog 145 [zW PT.e c1,.agg (List.map .d (DT.e d2))] (.d (.v (.bool r0))):=by
 refine ya [0,1] func145 ntmps145 ?_;intro ctx hK;refine zY ?_;refine yF (zO h) 16 [] [] (fun v3=>([(4,.d (.v (.bool v3)))],[])) (fun h=>?_) ?_
 ·refine g5 ?_;refine h5 ?_;obtain⟨v4,hy5,h⟩:=zV h;refine qs (fun _ U W=>cN (YQ hy5) U call140 (Ya (fun a b=>U a b) rfl rfl) rfl rfl rfl) ?_;refine h5 ?_;refine vn 7 h (fun h=>?_) fun h=>?_
  ·refine yC ?_;obtain⟨v7,hy8,h⟩:=zV h;refine qt (fun _ U W=>cN (UP hy8) U call148 (Ya (fun a b=>U a b) rfl rfl) rfl rfl rfl) ?_;refine yW ?_;obtain⟨v9,hy10,h⟩:=zV h;refine qt (fun _ U W=>cN (jq hy10) U call181 (Ya (fun a b=>U a b) rfl rfl) rfl rfl rfl) ?_;refine yC ?_;exact⟨v9,(),h,sP⟩
  ·refine JQ ?_;exact⟨false,(),h,sP⟩
 ·rintro v3 _ h;refine wX ?_;cases h;exact xT
theorem w6a{l1 c2 r0}(h:(Ju l1 c2).wp (·=r0)):PFun prog 103 [zW DT.e l1,zW PT.e c2] (zW DT.e r0):=by
 refine ya [0,1] func103 ntmps103 ?_;intro ctx hK;refine zE ?_;refine ws (aR 101 2 rfl) ?_;refine zQ ?_;refine ws (aR 101 2 rfl) ?_;refine zY ?_;refine yF (zO h) 27 [] [] (fun out3=>([(5,zW DT.e out3)],[])) (fun h=>?_) ?_
 ·refine g5 ?_;refine zf h 27 [0,1] [] (fun⟨out28,i29⟩=>([(5,zW DT.e out28),(6,zC .i64 i29)],[])) ?_ (hs:=Sub.trans (Sub.frz [5] hK rfl vD (AllRow.get (.cons rfl<|.nil)))<|sP);rintro N ⟨out28,i29⟩ _ h;refine zl ?_;refine zD h (fun h=>?_) fun h=>?_
  ·refine zE ?_;refine yF (zO h) 27 [0,1,6] [] (fun out31=>([(5,zW DT.e out31)],[])) (fun h=>?_) ?_
   ·refine zY ?_;obtain⟨x32,hy33,h⟩:=yO h;refine xK hy33 ?_;refine g5 ?_;obtain⟨v34,hy35,h⟩:=zV h;refine xN (ZRa hy35) call145 ?_;refine zE ?_;refine zD h (fun h=>?_) fun h=>?_
    ·refine zG ?_;obtain⟨x37,hy38,h⟩:=yO h;refine xK hy38 ?_;refine g5 ?_;obtain⟨v39,hy40,h⟩:=zV h;refine ws (LR.rowN (XO hy40) rfl call146 rfl rfl rfl rfl)<|xd [0,1,5,6,25] [25] ?_;refine zE ?_;exact⟨v39,(),h,Sub.trans (Sub.frz [5,25] hK rfl (by simp) (AllRow.get (.cons rfl<|.cons rfl<|.nil)))<|sP⟩
    ·refine g5 ?_;exact⟨out28,(),h,sP⟩
   ·rintro out31 _ h;refine zK ?_;exact⟨(out31,(IntKind.i64.wrap (i29+1))),(),h,sP⟩
  ·refine wZ ?_;exact⟨out28,(),h,sP⟩
 ·rintro out3 _ h;refine zK ?_;refine wX ?_;cases h;exact xT
theorem w7a{l1 r0}(h:(Jv l1).wp (·=r0)):PFun prog 104 [zW EV.e l1] (zW DT.e r0):=by
 refine ya [0] func104 ntmps104 ?_;intro ctx hK;refine zE ?_;refine ws (aR 101 2 rfl) ?_;refine zQ ?_;refine ws (aR 101 2 rfl) ?_;refine zY ?_;refine yF (zO h) 40 [] [] (fun out2=>([(3,zW DT.e out2)],[])) (fun h=>?_) ?_
 ·refine g5 ?_;refine zf h 40 [0] [] (fun⟨out79,i80⟩=>([(3,zW DT.e out79),(4,zC .i64 i80)],[])) ?_ (hs:=Sub.trans (Sub.frz [3] hK rfl vD (AllRow.get (.cons rfl<|.nil)))<|sP);rintro N ⟨out79,i80⟩ _ h;refine zl ?_;refine zD h (fun h=>?_) fun h=>?_
  ·refine zE ?_;refine yF (zO h) 40 [0,4] [] (fun out82=>([(3,zW DT.e out82)],[])) (fun h=>?_) ?_
   ·refine zY ?_;obtain⟨x83,hy84,h⟩:=yO h;refine xK hy84 ?_;refine zE ?_;obtain⟨v85,hy86,h⟩:=zV h;refine ws (LR.rowN (XO hy86) rfl call146 rfl rfl rfl rfl) ?_;refine ze ?_;refine zf h 40 [0,4] [] (fun⟨out107,k108⟩=>([(3,zW DT.e out107),(5,zC .i64 k108)],[])) ?_ (hs:=Sub.trans (Sub.frz [3,18] hK rfl (by simp) (AllRow.get (.cons rfl<|.cons rfl<|.nil)))<|sP);rintro N ⟨out107,k108⟩ _ h;refine zY ?_;obtain⟨x109,hy110,h⟩:=yO h;refine xK hy110 ?_;refine zK ?_;refine zD h (fun h=>?_) fun h=>?_
    ·refine ze ?_;obtain⟨x112,hy113,h⟩:=yO h;refine xK hy113 ?_;refine zQ ?_;obtain⟨x114,hy115,h⟩:=yO h;refine xK hy115 ?_;refine g5 ?_;refine xd [0,3,4,5,29,37] [] ?_;obtain⟨v116,hy117,h⟩:=zV h;refine ws (LR.rowN (XO hy117) rfl call146 rfl rfl rfl rfl) ?_;refine ze ?_;exact⟨(v116,(IntKind.i64.wrap (k108+1))),(),h,Sub.trans (Sub.frz [3,38] hK rfl (by simp) (AllRow.get (.cons rfl<|.cons rfl<|.nil)))<|sP⟩
    ·refine wZ ?_;exact⟨out107,(),h,sP⟩
   ·rintro out82 _ h;refine zK ?_;exact⟨(out82,(IntKind.i64.wrap (i80+1))),(),h,sP⟩
  ·refine wZ ?_;exact⟨out79,(),h,sP⟩
 ·rintro out2 _ h;refine zK ?_;refine wX ?_;cases h;exact xT
theorem w8a{c1 l2 r0}(h:(Jw c1 l2).wp (·=r0)):PFun prog 62 [zW PT.e c1,zW EV.e l2] (.d (.v (.bool r0))):=by
 refine ya [0,1] func62 ntmps62 ?_;intro ctx hK;refine ym ?_;refine wq (zO h) 64 [0,1] [] (fun _=>([],[])) (fun h=>?_) ?_
 ·refine g5 ?_;refine zf h 64 [0,1] [] (fun i_64=>([(5,zC .i64 i_64)],[])) ?_;rintro N i_64 _ h;refine zl ?_;refine zD h (fun h=>?_) fun h=>?_
  ·refine zG ?_;refine yF (zO h) 64 [0,1,5] [] (fun v66=>([(53,.d (.v (.bool v66)))],[])) (fun h=>?_) ?_
   ·refine g5 ?_;refine yW ?_;obtain⟨x67,hy68,h⟩:=yO h;refine yz hy68 ?_;refine h5 ?_;obtain⟨v69,hy70,h⟩:=zV h;refine qs (fun _ U W=>cN (QL hy70) U call101 (Ya (fun a b=>U a b) rfl rfl) rfl rfl rfl) ?_;refine yW ?_;refine vn 18 h (fun h=>?_) fun h=>?_
    ·refine hs22A6 ?_;refine jX [0,1,5,19,20,21,22,23,24,25,26,27,28,29,30,31,32,33,34,35,37,38,39,40] ?_;refine YPa ?_;exact⟨true,(),h,sP⟩
    ·refine yC ?_;refine vn 21 h (fun h=>?_) fun h=>?_
     ·refine yC ?_;obtain⟨x73,hy74,h⟩:=yO h;refine vS hy74 ?_;refine xX ?_;obtain⟨x75,hy76,h⟩:=yO h;refine vS hy76 ?_;refine yW ?_;obtain⟨v77,hy78,h⟩:=zV h;refine qt (fun _ U W=>cN (Zr hy78) U call80 (Ya (fun a b=>U a b) rfl rfl) rfl rfl rfl) ?_;refine xX ?_;refine vn 37 h (fun h=>?_) fun h=>?_
      ·refine h5 ?_;refine jX [0,1,5,19,20,21,22,23,24,25,26,27,28,29,30,31,32,33,34,35,37,38] ?_;refine YQa ?_;exact⟨true,(),h,sP⟩
      ·refine h5 ?_;refine jX [0,1,5,19,20,21,22,23,24,25,26,27,28,29,30,31,32,33,34,35,37,38] ?_;refine h5 ?_;obtain⟨x80,hy81,h⟩:=yO h;refine vS hy81 ?_;refine xX ?_;refine vn 44 h (fun h=>?_) fun h=>?_
       ·refine yC ?_;obtain⟨x83,hy84,h⟩:=yO h;refine vS hy84 ?_;refine yW ?_;obtain⟨v85,hy86,h⟩:=zV h;refine qt (fun _ U W=>cN (QM hy86) U call102 (Ya (fun a b=>U a b) rfl rfl) rfl rfl rfl) ?_;refine yC ?_;exact⟨v85,(),h,sP⟩
       ·refine JQ ?_;exact⟨false,(),h,sP⟩
     ·refine YRa ?_;refine jX [0,1,5,19,20,21,22,23,24,25,26,27,28,29,30,31,32,33,34,35,37,38,39] ?_;obtain⟨x87,hy88,h⟩:=yO h;refine vS hy88 ?_;refine xX ?_;refine vn 44 h (fun h=>?_) fun h=>?_
      ·refine yC ?_;obtain⟨x90,hy91,h⟩:=yO h;refine vS hy91 ?_;refine yW ?_;obtain⟨v92,hy93,h⟩:=zV h;refine qt (fun _ U W=>cN (QM hy93) U call102 (Ya (fun a b=>U a b) rfl rfl) rfl rfl rfl) ?_;refine yC ?_;exact⟨v92,(),h,sP⟩
      ·refine JQ ?_;exact⟨false,(),h,sP⟩
   ·rintro v66 _ h;refine zD h (fun h=>?_) fun h=>?_
    ·refine zG ?_;refine wX ?_;cases h;exact xT
    ·refine zY ?_;exact⟨(IntKind.i64.wrap (i_64+1)),(),h,sP⟩
  ·refine wZ ?_;exact⟨(),(),h,sP⟩
 ·rintro _ _ h;refine g5 ?_;refine yF (zO h) 64 [] [] (fun v95=>([(4,.d (.v (.bool v95)))],[])) (fun h=>?_) ?_
  ·refine zE ?_;obtain⟨v96,hy97,h⟩:=zV h;refine xN (UQ hy97) call63 ?_;refine g5 ?_;refine yK 56 h (fun h=>?_) fun h=>?_
   ·refine g5 ?_;obtain⟨v99,hy100,h⟩:=zV h;refine wt (cN (w7a hy100) rfl call104 rfl rfl rfl rfl) ?_;refine g5 ?_;obtain⟨v101,hy102,h⟩:=zV h;refine wt (cN (w6a hy102) rfl call103 rfl rfl rfl rfl) ?_;refine zK ?_;exact⟨(decide ((v101.length:Int)=0)),(),h,sP⟩
   ·refine ym ?_;exact⟨false,(),h,sP⟩
  ·rintro v95 _ h;refine wX ?_;cases h;exact xT
theorem w9a{s1 r0}(h:(VU s1).wp (·=r0)):PFun prog 24 [.agg (List.map .d (THubState.e s1))] (.tup [.agg (List.map .d (R33Center.e r0.1)),.d (.v (.bool r0.2))]):=by
 refine ya [0] func24 ntmps24 ?_;intro ctx hK;refine zl ?_;refine yF (zO h) 113 [1,2] [1,2] (fun v2=>([(33,.d (.v (.bool v2)))],[])) (fun h=>?_) ?_
 ·refine ym ?_;obtain⟨v3,hy4,h⟩:=zV h;refine xN (w0a hy4) call61 ?_;refine zE ?_;refine yK 17 h (fun h=>?_) fun h=>?_
  ·refine zK ?_;refine xd [1,2,17,22] [1,2] ?_;refine qr ?_;exact⟨true,(),h,sP⟩
  ·refine zG ?_;obtain⟨v6,hy7,h⟩:=zV h;refine wt (cN (w8a hy7) rfl call62 rfl rfl rfl rfl)<|xd [1,2,17,22] [1,2] ?_;refine zQ ?_;refine yK 25 h (fun h=>?_) fun h=>?_
   ·refine ym ?_;exact⟨true,(),h,sP⟩
   ·refine ym ?_;exact⟨(!decide ((s1.rows.length:Int)=(s1.members.length:Int))),(),h,sP⟩
 ·rintro v2 _ h;refine zD h (fun h=>?_) fun h=>?_
  ·refine zE ?_;refine ws (LR.build (ns:=[_,_,_,_,_,_,_,_,_,_,_,_,_,_,_,_,_,_,_,_,_,_]) wna rfl rfl rfl) ?_;refine zQ ?_;refine wX ?_;cases h;exact⟨.inr rfl,_,.cons (.agg isAgg72 sizeOf72 rfl rfl rfl rfl)<|.cons (.tmp rfl rfl)<|.nil,rfl⟩
  ·refine ym ?_;refine ws (LR.build (ns:=[_,_,_,_,_,_,_,_,_,_,_,_,_,_,_,_,_,_,_]) build67 rfl rfl rfl) ?_;refine zG ?_;refine ws (LR.build (ns:=[_,_]) build70 rfl rfl rfl)<|ws (LR.build (ns:=[_,_,_,_,_,_,_,_,_,_,_,_,_,_,_,_,_,_,_,_,_,_]) wna rfl rfl rfl) ?_;refine zl ?_;refine yF (zO h) 113 [1,2,4] [1,2] (fun ar10=>([],[(4,.cells 72 (zC .u64 s1.epoch::zC .u16 s1.last::zW TMember.e s1.members::wj ar10 [zW R25Row.e ([]:List R25Row),zW PT.e s1.ctx,zW EV.e s1.all]))])) (fun h=>?_) ?_
   ·refine g5 ?_;refine zf h 113 [1,2,4] [1,2] (fun⟨i21,ar22⟩=>([(5,zC .i64 i21)],[(4,.cells 72 (zC .u64 s1.epoch::zC .u16 s1.last::zW TMember.e s1.members::wj ar22 [zW R25Row.e ([]:List R25Row),zW PT.e s1.ctx,zW EV.e s1.all]))])) ?_;rintro N ⟨i21,ar22⟩ _ h;refine zY ?_;refine zD h (fun h=>?_) fun h=>?_
    ·refine zl ?_;obtain⟨x24,hy25,h⟩:=yO h;refine xK hy25 ?_;refine zQ ?_;obtain⟨hy26,h⟩:=zy h;refine ws (LR.idxArr underlying65 rfl sizeOf22 rfl rfl hy26)<|ws (LR.storeArr (ns:=[_,_,_,_,_,_,_,_,_,_,_,_,_,_,_,_,_,_,_,_,_,_]) .u64 ar22 sizeOf22 rfl rfl rfl hy26 rfl rfl) ?_;refine zY ?_;exact⟨((IntKind.i64.wrap (i21+1)),(AR.set ar22 (Int.toNat i21) x24)),(),h,sP⟩
    ·refine wZ ?_;exact⟨ar22,(),h,sP⟩
   ·rintro ar10 _ h;refine zK ?_;refine wq (zO h) 113 [2,4] [2] (fun c27=>([],[(4,.cells 72 (zC .u64 s1.epoch::zC .u16 s1.last::zW TMember.e s1.members::wj ar10 [zW R25Row.e c27,zW PT.e s1.ctx,zW EV.e s1.all]))])) (fun h=>?_) ?_
    ·refine g5 ?_;refine zf h 113 [1,2,4] [1,2] (fun⟨i66,c67⟩=>([(6,zC .i64 i66)],[(4,.cells 72 (zC .u64 s1.epoch::zC .u16 s1.last::zW TMember.e s1.members::wj ar10 [zW R25Row.e c67,zW PT.e s1.ctx,zW EV.e s1.all]))])) ?_;rintro N ⟨i66,c67⟩ _ h;refine ym ?_;refine zD h (fun h=>?_) fun h=>?_
     ·refine zK ?_;refine yF (zO h) 113 [1,2,4,6] [1,2,4] (fun v69=>([(90,.d (.v (.bool v69)))],[])) (fun h=>?_) ?_
      ·refine g5 ?_;refine yC ?_;obtain⟨x70,hy71,h⟩:=yO h;refine yz hy71 ?_;refine WJ ?_;obtain⟨x72,hy73,h⟩:=yO h;refine yz hy73 ?_;refine xX ?_;refine vn 81 h (fun h=>?_) fun h=>?_
       ·refine JQ ?_;exact⟨true,(),h,sP⟩
       ·refine yC ?_;obtain⟨x75,hy76,h⟩:=yO h;refine vS hy76 ?_;refine yW ?_;obtain⟨v77,hy78,h⟩:=zV h;refine qt (fun _ U W=>cN (UQ hy78) U call63 (Ya (fun a b=>U a b) rfl rfl) rfl rfl rfl) ?_;refine yC ?_;exact⟨(!v77),(),h,sP⟩
      ·rintro v69 _ h;refine zD h (fun h=>?_) fun h=>?_
       ·refine zE ?_;refine ws (LR.build (ns:=[_,_,_,_,_,_,_,_,_,_,_,_,_,_,_,_,_,_,_,_,_,_]) wna rfl rfl rfl) ?_;refine zQ ?_;refine wX ?_;cases h;exact⟨.inr rfl,_,.cons (.agg isAgg72 sizeOf72 rfl rfl rfl rfl)<|.cons (.tmp rfl rfl)<|.nil,rfl⟩
       ·refine g5 ?_;refine zx [1,2,4,6] [1,2,4] ?_;refine PWc.regionE [⟨[92],[92],[],[92],[],[92],[],[]⟩,yf [93] [4],⟨[94],[],[4],[],[],[],[],[]⟩,⟨[92,95],[92],[92],[],[(92,[92])],[92],[],[]⟩,yf [96] [1],⟨[97],[],[1],[],[],[],[],[]⟩,{ws:=[98]},{ws:=[99]},{ws:=[100]},{ws:=[101]},yf [102] [1],⟨[103],[],[1],[],[],[],[],[]⟩,{ws:=[104]},{ws:=[105]},{ws:=[106]},{ws:=[107]},{ws:=[108]},{ws:=[109]},⟨[92,95,110],[92],[92],[],[(92,[92,95])],[],[],[]⟩,yf [111] [4],⟨[],[4],[4],[],[],[],[],[]⟩] (by kernel_rfl) (by kernel_rfl) rfl ?_;refine PQe.stepN (fun _ U W hf=>LR.buildSlice [] v5a rfl rfl (.nil) (by decide) (by decide) hf) rfl (.inl rfl) rfl ?_;refine yW ?_;obtain⟨hy80,h⟩:=zy h;refine PQe.stepA [92] (fun _ U W ha=>LR.appT (enc:=R25Row.e) (L:=([]:List R25Row)) (R:=c67) [92] v5a underlying68 (U rfl rfl) vD (W rfl rfl) (Src.slT (enc:=R25Row.e) (R:=c67) (U rfl rfl) (fun _=>rfl)) (fun _=>rfl) hy80 rfl ha) rfl (.inl rfl) rfl ?_;refine yC ?_;obtain⟨x81,hy82,h⟩:=yO h;refine kp (fun _ U W=>iX (enc:=TRow.e) (L:=s1.rows) (y:=x81) underlying26 sizeOf51 U U hy82 (fun _=>rfl)) ?_;refine WJ ?_;obtain⟨x83,hy84,h⟩:=yO h;refine kp (fun _ U W=>iX (enc:=TRow.e) (L:=s1.rows) (y:=x83) underlying26 sizeOf51 U U hy84 (fun _=>rfl)) ?_;refine yW ?_;refine kp (fun _ U W=>LR.build (ns:=[_,_]) build129 rfl (evpE (fun a b=>U a b) rfl rfl) rfl) ?_;refine kp (fun _ U W=>LR.buildSliceD [.tmp 108] v5a rfl rfl (.cons U rfl rfl<|.nil) (by decide) (by decide)) ?_;obtain⟨hy85,h⟩:=zy h;refine PQe.stepA [92,95] (fun _ U W ha=>LR.appTD (enc:=R25Row.e) (L:=(([]:List R25Row)++c67)) (R:=[(⟨x81.who,x83.have_⟩:R25Row)]) [92,95] hK v5a underlying68 (U rfl rfl) rfl (W rfl rfl) (Src.slT (enc:=R25Row.e) (R:=[(⟨x81.who,x83.have_⟩:R25Row)]) (U rfl rfl) (fun _=>rfl)) (fun _=>rfl) hy85 rfl ha) rfl (.inl rfl) rfl ?_;refine h5 ?_;refine ks (fun _ U W=>sB (ns:=[_,_,_,_,_,_,_,_,_,_,_,_,_,_,_,_,_,_,_,_,_,_]) sizeOf68 U U rfl rfl (W rfl rfl) rfl rfl)<|PQe.nil ?_;refine g5 ?_;refine xd [1,2,4,6] [1,2,4] ?_;refine zG ?_;exact⟨((IntKind.i64.wrap (i66+1)),((([]:List R25Row)++c67)++[(⟨x81.who,x83.have_⟩:R25Row)])),(),h,sP⟩
     ·refine wZ ?_;exact⟨c67,(),h,sP⟩
    ·rintro c27 _ h;refine zY ?_;refine wX ?_;cases h;exact⟨.inr rfl,_,.cons (.agg isAgg72 sizeOf72 rfl rfl rfl rfl)<|.cons (.tmp rfl rfl)<|.nil,rfl⟩
theorem vAa{b1 at2 r0}(h:(Jx b1 at2).wp (·=r0)):PFun prog 69 [zW (eK .u8) b1,zC .i64 at2] (.tup [zC .u64 r0.1,zC .i64 r0.2.1,zC .i64 r0.2.2]):=by
 refine ya [0,1] func69 ntmps69 ?_;intro ctx hK;refine zl ?_;refine yF (zO h) 75 [0,1] [] (fun v3=>([(19,.d (.v (.bool v3)))],[])) (fun h=>?_) ?_
 ·refine zG ?_;refine yK 14 h (fun h=>?_) fun h=>?_
  ·refine zY ?_;exact⟨true,(),h,sP⟩
  ·refine zY ?_;exact⟨(decide ((b1.length:Int) < at2)),(),h,sP⟩
 ·rintro v3 _ h;refine zD h (fun h=>?_) fun h=>?_
  ·refine zY ?_;refine wX ?_;cases h;exact Um
  ·refine ym ?_;refine zD h (fun h=>?_) fun h=>?_
   ·refine zY ?_;refine wX ?_;cases h;exact Um
   ·refine zQ ?_;refine yW ?_;obtain⟨x7,hy8,h⟩:=yO h;refine yz hy8 ?_;refine h5 ?_;refine qs (fun _ U W=>LR.convInt underlying3 (by rw[underlying5];rfl) U rfl) ?_;refine yC ?_;obtain⟨hy9,h⟩:=zy h;refine qs (fun _ U W=>LR.cutLT (enc:=(eK .u8)) (L:=b1) underlying34 sizeOf5 U (fun _=>rfl) U hy9) ?_;refine yC ?_;refine zQ ?_;refine yF (zO h) 75 [1,7,8] [] (fun v10=>([(33,.d (.v (.bool v10)))],[])) (fun h=>?_) ?_
    ·refine zG ?_;refine xd [1,7,8,36] [] ?_;refine yK 36 h (fun h=>?_) fun h=>?_
     ·refine zda ?_;exact⟨true,(),h,sP⟩
     ·refine zQ ?_;refine yK 39 h (fun h=>?_) fun h=>?_
      ·refine g5 ?_;refine wt (lM (enc:=(eK .u8)) (L:=(List.drop (Int.toNat (IntKind.i64.wrap (at2+1))) (List.take (Int.toNat (b1.length:Int)) b1))) underlying34 rfl) ?_;refine zQ ?_;refine yK 44 h (fun h=>?_) fun h=>?_
       ·refine g5 ?_;obtain⟨x14,hy15,h⟩:=yO h;refine wt (iX (enc:=(eK .u8)) (L:=(List.drop (Int.toNat (IntKind.i64.wrap (at2+1))) (List.take (Int.toNat (b1.length:Int)) b1))) (y:=x14) underlying34 sizeOf5 rfl rfl hy15 (fun _=>rfl)) ?_;refine zG ?_;refine xd [1,7,8,50] [] ?_;refine zE ?_;exact⟨(decide (x14=0)),(),h,sP⟩
       ·refine zY ?_;refine xd [1,7,8,50] [] ?_;refine zE ?_;exact⟨false,(),h,sP⟩
      ·refine vu ?_;exact⟨false,(),h,sP⟩
    ·rintro v10 _ h;refine zD h (fun h=>?_) fun h=>?_
     ·refine zY ?_;refine wX ?_;cases h;exact Um
     ·refine zQ ?_;refine ws (lM (enc:=(eK .u8)) (L:=(List.drop (Int.toNat (IntKind.i64.wrap (at2+1))) (List.take (Int.toNat (b1.length:Int)) b1))) underlying34 rfl) ?_;refine zG ?_;refine zD h (fun h=>?_) fun h=>?_
      ·refine zY ?_;refine wX ?_;cases h;exact Um
      ·refine wV ?_;obtain⟨hy18,h⟩:=zy h;refine ws (LR.cutHT (enc:=(eK .u8)) (L:=(List.drop (Int.toNat (IntKind.i64.wrap (at2+1))) (List.take (Int.toNat (b1.length:Int)) b1))) underlying34 sizeOf5 rfl (fun _=>rfl) rfl hy18)<|ws (lM (enc:=(eK .u8)) (L:=(List.drop (Int.toNat 0) (List.take (Int.toNat (IntKind.i64.wrap x7)) ((List.drop (Int.toNat (IntKind.i64.wrap (at2+1))) (List.take (Int.toNat (b1.length:Int)) b1)))))) underlying34 rfl) ?_;refine zE ?_;refine yF (zO h) 75 [1,7] [] (fun v19=>([(9,zC .u64 v19)],[])) (fun h=>?_) ?_
       ·refine g5 ?_;refine zf h 75 [1,7,58,59] [] (fun⟨v28,v29⟩=>([(9,zC .u64 v28),(60,zC .i64 v29)],[])) ?_;rintro N ⟨v28,v29⟩ _ h;refine zK ?_;refine zD h (fun h=>?_) fun h=>?_
        ·refine zK ?_;obtain⟨x31,hy32,h⟩:=yO h;refine ws (iX (enc:=(eK .u8)) (L:=(List.drop (Int.toNat 0) (List.take (Int.toNat (IntKind.i64.wrap x7)) ((List.drop (Int.toNat (IntKind.i64.wrap (at2+1))) (List.take (Int.toNat (b1.length:Int)) b1)))))) (y:=x31) underlying34 sizeOf5 rfl rfl hy32 (fun _=>rfl)) ?_;refine ze ?_;refine ws (LR.convInt underlying22 (by rw[underlying5];rfl) rfl rfl) ?_;refine ze ?_;exact⟨((bOr .u64 (IntKind.u64.wrap (v28*2 ^ 8)) (IntKind.u64.wrap x31)),(IntKind.i64.wrap (v29+1))),(),h,sP⟩
        ·refine wZ ?_;exact⟨v28,(),h,sP⟩
       ·rintro v19 _ h;refine vi ?_;refine wX ?_;cases h;exact Um
theorem yZa{b1 r0}(h:(VX b1).wp (·=r0)):PObj prog 28 [zW (eK .u8) b1] [] [] (.ref 7 0) (fun _:Unit=>[(7,.cells 135 [zW (eK .u8) r0.1,zC .i64 r0.2])]):=by
 refine yY [0] func28 ntmps28 ?_;intro ctx hK pv;refine ze ?_;obtain⟨hy2,h⟩:=zy h;refine ws (LR.appNilT (enc:=(eK .u8)) (R:=b1) WR underlying34 rfl (Src.slT (enc:=(eK .u8)) (R:=b1) rfl (fun _=>rfl)) (fun _=>rfl) hy2 rfl rfl)<|PWl.frz [4] hK (.cons rfl<|.nil) rfl (by simp) ?_;refine ws (LR.build (ns:=[_]) build133 rfl rfl rfl)<|ws (LR.build (ns:=[_,_]) build135 rfl rfl rfl) ?_;refine zQ ?_;refine wX ?_;cases h;exact yl [2] [7]
theorem zu{b_1 bad_2 r0}(h:(zm b_1 bad_2).wp (·=r0)):PObj prog 68 [.ref 100 0] [(100,.cells 135 [zW (eK .u8) b_1,zC .i64 bad_2])] [100] (zC .i64 r0.1) (fun _:Unit=>[(100,.cells 135 [zW (eK .u8) r0.2.1,zC .i64 r0.2.2])]):=by
 refine yY [0] func68 ntmps68 ?_;intro ctx hK pv;refine wV ?_;refine PWc.condF rfl ?_;refine ym ?_;refine wX ?_;cases h;exact yl [2] [100,1100]
theorem zd{e1 b_2 bad_3 r0}(h:(zX e1 b_2 bad_3).wp (·=r0)):PObj prog 70 [.ref 100 0,zC .i64 e1] [(100,.cells 135 [zW (eK .u8) b_2,zC .i64 bad_3])] [100] (.tup []) (fun _:Unit=>[(100,.cells 135 [zW (eK .u8) r0.1,zC .i64 r0.2])]):=by
 refine yY [0,1] func70 ntmps70 ?_;intro ctx hK pv;refine g5 ?_;refine yF (zO h) 25 [0,1] [100,1100] (fun v4=>([(16,.d (.v (.bool v4)))],[])) (fun h=>?_) ?_
 ·refine vi ?_;refine yK 13 h (fun h=>?_) fun h=>?_
  ·refine zG ?_;exact⟨(!decide (e1=0)),(),h,sP⟩
  ·refine zG ?_;exact⟨false,(),h,sP⟩
 ·rintro v4 _ h;refine zD h (fun h=>?_) fun h=>?_
  ·refine vi ?_;refine PWl.sub (Sub.nilCell (id:=100) (j:=0) rfl rfl) ?_;refine g5 ?_;cases h;exact yl [] [100,1100]
  ·refine g5 ?_;cases h;exact yl [] [100,1100]
theorem uF{n1 b_2 bad_3 r0}(h:(xl n1 b_2 bad_3).wp (·=r0)):PObj prog 71 [.ref 100 0,zC .i64 n1] [(100,.cells 135 [zW (eK .u8) b_2,zC .i64 bad_3])] [100] (zW (eK .u8) r0.1) (fun _:Unit=>[(100,.cells 135 [zW (eK .u8) r0.2.1,zC .i64 r0.2.2])]):=by
 refine yY [0,1] func71 ntmps71 ?_;intro ctx hK pv;refine zE ?_;refine ws (aR 5 1 rfl) ?_;refine zl ?_;obtain⟨hy4,h⟩:=zy h;refine ws (LR.cutHT (enc:=(eK .u8)) (L:=b_2) underlying34 sizeOf5 rfl (fun _=>rfl) rfl hy4) ?_;refine wV ?_;obtain⟨hy5,h⟩:=zy h;refine ws (LR.cutLT (enc:=(eK .u8)) (L:=b_2) underlying34 sizeOf5 rfl (fun _=>rfl) rfl hy5) ?_;refine ze ?_;refine xd [0,1,5,6,7,8,9,10,11,12,13,14,15,16,17,18,19,20,21] [100,1100] ?_;refine zE ?_;refine wX ?_;cases h;exact yl [4] [100,1100]
theorem zg{b_1 bad_2 r0}(h:(zc b_1 bad_2).wp (·=r0)):PObj prog 29 [.ref 100 0] [(100,.cells 135 [zW (eK .u8) b_1,zC .i64 bad_2])] [100] (zC .u64 r0.1) (fun _:Unit=>[(100,.cells 135 [zW (eK .u8) r0.2.1,zC .i64 r0.2.2])]):=by
 refine yY [0] func29 ntmps29 ?_;intro ctx hK pv;refine zl ?_;obtain⟨y3,hy4,h⟩:=zV h;refine xO [(100,100)] [] [100] (zu hy4) call68 ?_;refine zE ?_;refine zD h (fun h=>?_) fun h=>?_
 ·refine g5 ?_;refine zx [] [100,1100] ?_;refine zQ ?_;refine wX ?_;cases h;exact yl [2] [100,1100]
 ·refine zE ?_;refine zx [0] [100,1100] ?_;refine zY ?_;obtain⟨v6,hy7,h⟩:=zV h;refine xN (vAa hy7) call69 ?_;refine JP ?_;refine zD h (fun h=>?_) fun h=>?_
  ·refine zG ?_;obtain⟨y9,hy10,h⟩:=zV h;refine xO [(100,100)] [] [100] (zd hy10) call70 ?_;refine zE ?_;refine zx [] [100,1100] ?_;refine zQ ?_;refine wX ?_;cases h;exact yl [2] [100,1100]
  ·refine ze ?_;obtain⟨y11,hy12,h⟩:=zV h;refine xO [(100,100)] [] [100] (uF hy12) call71 ?_;refine zE ?_;refine zx [3] [100,1100] ?_;refine zG ?_;refine wX ?_;cases h;exact yl [2] [100,1100]
theorem xz{most1 b_2 bad_3 r0}(h:(yQ most1 b_2 bad_3).wp (·=r0)):PObj prog 30 [.ref 100 0,zC .u64 most1] [(100,.cells 135 [zW (eK .u8) b_2,zC .i64 bad_3])] [100] (zC .u64 r0.1) (fun _:Unit=>[(100,.cells 135 [zW (eK .u8) r0.2.1,zC .i64 r0.2.2])]):=by
 refine yY [0,1] func30 ntmps30 ?_;intro ctx hK pv;refine ze ?_;obtain⟨y4,hy5,h⟩:=zV h;refine xO [(100,100)] [] [100] (zg hy5) call29 ?_;refine zG ?_;refine zx [0,1,5] [100,1100] ?_;refine zK ?_;refine zD h (fun h=>?_) fun h=>?_
 ·refine zQ ?_;obtain⟨y7,hy8,h⟩:=zV h;refine xO [(100,100)] [] [100] (zd hy8) call70 ?_;refine zE ?_;refine zx [] [100,1100] ?_;refine zQ ?_;refine wX ?_;cases h;exact yl [4] [100,1100]
 ·refine zY ?_;refine wX ?_;cases h;exact yl [4] [100,1100]
theorem UR{b_1 bad_2 r0}(h:(ZL b_1 bad_2).wp (·=r0)):PObj prog 115 [.ref 100 0] [(100,.cells 135 [zW (eK .u8) b_1,zC .i64 bad_2])] [100] (zC .i64 r0.1) (fun _:Unit=>[(100,.cells 135 [zW (eK .u8) r0.2.1,zC .i64 r0.2.2])]):=by
 refine yY [0] func115 ntmps115 ?_;intro ctx hK pv;refine wV ?_;refine PWc.condF rfl ?_;refine wV ?_;refine wX ?_;cases h;exact yl [2] [100,1100]
theorem vW{b_1 bad_2 r0}(h:(xI b_1 bad_2).wp (·=r0)):PObj prog 77 [.ref 100 0] [(100,.cells 135 [zW (eK .u8) b_1,zC .i64 bad_2])] [100] (zC .i64 r0.1) (fun _:Unit=>[(100,.cells 135 [zW (eK .u8) r0.2.1,zC .i64 r0.2.2])]):=by
 refine yY [0] func77 ntmps77 ?_;intro ctx hK pv;refine wV ?_;refine PWc.condF rfl ?_;refine zY ?_;obtain⟨y3,hy4,h⟩:=zV h;refine xO [(100,100)] [] [100] (UR hy4) call115 ?_;refine zE ?_;refine wX ?_;cases h;exact yl [2] [100,1100]
theorem vX{b_1 bad_2 r0}(h:(yR b_1 bad_2).wp (·=r0)):PObj prog 72 [.ref 100 0] [(100,.cells 135 [zW (eK .u8) b_1,zC .i64 bad_2])] [100] (zC .u8 r0.1) (fun _:Unit=>[(100,.cells 135 [zW (eK .u8) r0.2.1,zC .i64 r0.2.2])]):=by
 refine yY [0] func72 ntmps72 ?_;intro ctx hK pv;refine zl ?_;obtain⟨y3,hy4,h⟩:=zV h;refine xO [(100,100)] [] [100] (zu hy4) call68 ?_;refine zE ?_;refine zD h (fun h=>?_) fun h=>?_
 ·refine g5 ?_;refine zx [] [100,1100] ?_;refine zQ ?_;refine wX ?_;cases h;exact yl [2] [100,1100]
 ·refine zQ ?_;refine zx [0] [100,1100] ?_;refine zE ?_;obtain⟨y6,hy7,h⟩:=zV h;refine xO [(100,100)] [] [100] (vW hy7) call77 ?_;refine zE ?_;refine zD h (fun h=>?_) fun h=>?_
  ·refine g5 ?_;refine zx [0] [100,1100] ?_;refine zE ?_;obtain⟨y9,hy10,h⟩:=zV h;refine xO [(100,100)] [] [100] (zd hy10) call70 ?_;refine zE ?_;refine zx [] [100,1100] ?_;refine zQ ?_;refine wX ?_;cases h;exact yl [2] [100,1100]
  ·refine zE ?_;refine zx [0] [100,1100] ?_;refine zG ?_;obtain⟨y11,hy12,h⟩:=zV h;refine xO [(100,100)] [] [100] (uF hy12) call71 ?_;obtain⟨x13,hy14,h⟩:=yO h;refine xK hy14 ?_;refine zQ ?_;refine wX ?_;cases h;exact yl [2] [100,1100]
theorem jF{b_1 bad_2 r0}(h:(vU b_1 bad_2).wp (·=r0)):PObj prog 31 [.ref 100 0] [(100,.cells 135 [zW (eK .u8) b_1,zC .i64 bad_2])] [100] (zW TMember.e r0.1) (fun _:Unit=>[(100,.cells 135 [zW (eK .u8) r0.2.1,zC .i64 r0.2.2])]):=by
 refine yY [0] func31 ntmps31 ?_;intro ctx hK pv;refine zE ?_;refine ws (aR 59 3 rfl) ?_;refine zG ?_;obtain⟨y3,hy4,h⟩:=zV h;refine xO [(100,100)] [] [100] (zg hy4) call29 ?_;refine zG ?_;refine zx [0,3] [100,1100] ?_;refine zG ?_;refine zD h (fun h=>?_) fun h=>?_
 ·refine zQ ?_;obtain⟨y6,hy7,h⟩:=zV h;refine xO [(100,100)] [] [100] (zd hy7) call70 ?_;refine zE ?_;refine zx [] [100,1100] ?_;refine g5 ?_;refine ws (aR 59 3 rfl) ?_;refine g5 ?_;refine wX ?_;cases h;exact EndsO.mk () (.inr rfl) (Sub.trans (Sub.frz [2] hK rfl vD (AllRow.get (.cons rfl<|.nil)))<|vJ [2] [100,1100]) (.cons (.tmp rfl)<|.nil) rfl rfl
 ·refine zQ ?_;refine ws (aR 59 3 rfl) ?_;refine ze ?_;refine yF (zO h) 31 [] [1100] (fun⟨out8,v9,v10⟩=>([(4,.row 4 (out8.length))],[(4,.row 59 3 (List.map TMember.e out8)),(100,.cells 135 [zW (eK .u8) v9,zC .i64 v10])])) (fun h=>?_) ?_
  ·refine g5 ?_;refine zf h 31 [0,12] [1100] (fun⟨v31,out32,v33,v34⟩=>([(4,.row 4 (out32.length)),(13,zC .u64 v31)],[(4,.row 59 3 (List.map TMember.e out32)),(100,.cells 135 [zW (eK .u8) v33,zC .i64 v34])])) ?_;rintro N ⟨v31,out32,v33,v34⟩ _ h;refine zK ?_;refine zD h (fun h=>?_) fun h=>?_
   ·refine zY ?_;obtain⟨y36,hy37,h⟩:=zV h;refine xO [(100,100)] [] [100] (xz hy37) call30 ?_;refine ws (LR.convInt underlying23 (by rw[underlying22];rfl) rfl rfl) ?_;refine ws (LR.build (ns:=[_,_,_]) wma rfl rfl rfl) ?_;refine zG ?_;refine zx [0,4,5,12,13] [4,5,100,1100] ?_;refine zE ?_;obtain⟨y38,hy39,h⟩:=zV h;refine xO [(100,100)] [] [100] (vX hy39) call72 ?_;refine zG ?_;refine zx [0,4,5,12,13] [4,5,100,1100] ?_;refine zE ?_;obtain⟨y40,hy41,h⟩:=zV h;refine xO [(100,100)] [] [100] (zg hy41) call29 ?_;refine zQ ?_;refine zx [0,4,5,12,13] [4,5,100,1100] ?_;refine zQ ?_;refine ws (LR.buildSliceD [.tmp 26] JM rfl rfl (.cons rfl rfl rfl<|.nil) (by decide) (by decide)) ?_;obtain⟨hy42,h⟩:=zy h;refine ws (LR.appT (enc:=TMember.e) (L:=out32) (R:=[(⟨(IntKind.u16.wrap y36.1),y38.1,y40.1⟩:TMember)]) [4,25] JM underlying24 rfl rfl rfl (Src.slT (enc:=TMember.e) (R:=[(⟨(IntKind.u16.wrap y36.1),y38.1,y40.1⟩:TMember)]) rfl (fun _=>rfl)) (fun _=>rfl) hy42 rfl rfl) ?_;refine zY ?_;exact⟨((IntKind.u64.wrap (v31+1)),(out32++[(⟨(IntKind.u16.wrap y36.1),y38.1,y40.1⟩:TMember)]),y40.2.1,y40.2.2),(),h,zca⟩
   ·refine wZ ?_;exact⟨(out32,v33,v34),(),h,sP⟩
  ·rintro⟨out8,v9,v10⟩ _ h;refine zK ?_;refine wX ?_;cases h;exact EndsO.mk () (.inr rfl) (Sub.trans (Sub.frz [2,4,30] hK rfl (by simp) (AllRow.get (.cons rfl<|.cons rfl<|.cons rfl<|.nil)))<|vJ [2] [100,1100]) (.cons (.tmp rfl)<|.nil) rfl rfl
theorem QN{b_1 bad_2 r0}(h:(Ym b_1 bad_2).wp (·=r0)):PObj prog 73 [.ref 100 0] [(100,.cells 135 [zW (eK .u8) b_1,zC .i64 bad_2])] [100] (.agg (List.map .d (PT.e r0.1))) (fun _:Unit=>[(100,.cells 135 [zW (eK .u8) r0.2.1,zC .i64 r0.2.2])]):=by
 refine yY [0] func73 ntmps73 ?_;intro ctx hK pv;refine ze ?_;obtain⟨y3,hy4,h⟩:=zV h;refine xO [(100,100)] [] [100] (xz hy4) call30 ?_;refine ws (LR.convInt underlying23 (by rw[underlying22];rfl) rfl rfl) ?_;refine ws (LR.buildR (ns:=[_,_]) qq rfl rfl rfl) ?_;refine zE ?_;refine PWl.sub (Sub.ownNil (id:=3) (j:=1) (id':=30061) (e:=124) (k:=2) rfl rfl rfl rfl) ?_;refine zQ ?_;refine zx [0,2,3] [2,3,100,1100,30061] ?_;refine zE ?_;obtain⟨y5,hy6,h⟩:=zV h;refine xO [(100,100)] [] [100] (zg hy6) call29 ?_;refine zE ?_;refine yF (zO h) 29 [2,3] [2,1100] (fun⟨v7,v8,v9⟩=>([],[(3,.cells 99 [zC .u16 (IntKind.u16.wrap y3.1),.row 30061 (v7.length)]),(100,.cells 135 [zW (eK .u8) v8,zC .i64 v9]),(30061,.row 124 2 (List.map RN.e v7))])) (fun h=>?_) ?_
 ·refine g5 ?_;refine zf h 29 [0,2,3,10] [2,1100] (fun⟨v32,v33,v34,v35⟩=>([(11,zC .u64 v32)],[(3,.cells 99 [zC .u16 (IntKind.u16.wrap y3.1),.row 30061 (v33.length)]),(100,.cells 135 [zW (eK .u8) v34,zC .i64 v35]),(30061,.row 124 2 (List.map RN.e v33))])) ?_;rintro N ⟨v32,v33,v34,v35⟩ _ h;refine zK ?_;refine zD h (fun h=>?_) fun h=>?_
  ·refine zY ?_;obtain⟨y37,hy38,h⟩:=zV h;refine xO [(100,100)] [] [100] (zg hy38) call29 ?_;refine zQ ?_;refine zx [0,2,3,4,10,11] [2,3,100,1100,30061] ?_;refine PWc.regionE [yf [15] [3],⟨[16],[],[3],[],[],[30061],[],[]⟩,{ws:=[17]},yf [18] [100],⟨[19],[100],[100],[],[],[],[],[]⟩,{ws:=[20]},{ws:=[21]},⟨[16,22],[3,30061],[3,30061],[],[(30061,[16])],[30061],[],[3]⟩,yf [23] [3],⟨[],[3],[3,30061],[],[],[],[30061],[]⟩] (by kernel_rfl) (by kernel_rfl) rfl ?_;refine xX ?_;obtain⟨y39,hy40,h⟩:=zV h;refine PQe.callObj [(100,100)] [] [100] (zg hy40) hK (fun _ U=>⟨U rfl rfl,Ya U rfl rfl⟩) call29 (by first | rfl | (simp;done) | (simp[PV.nilD,PV.ren,rn] <;> omega)) (.cons YMa<|.nil) rfl rfl rfl rfl (.inl rfl) rfl ?_;refine kp (fun _ U W=>LR.build (ns:=[_,_]) z8a rfl (evpE (fun a b=>U a b) rfl rfl) rfl) ?_;refine kp (fun _ U W=>LR.buildSliceD [.tmp 20] ZS rfl rfl (.cons U rfl rfl<|.nil) (by decide) (by decide)) ?_;obtain⟨hy41,h⟩:=zy h;refine PQe.stepX [16] (fun _ U W ha=>LR.appC (enc:=RN.e) (L:=v33) (R:=[(⟨y37.1,y39.1⟩:RN)]) (j:=1) [16] ZS underlying97 (U rfl rfl) rfl (W rfl rfl) (W rfl rfl) rfl rfl (fun _ h1 h2=>Src.slT (enc:=RN.e) (R:=[(⟨y37.1,y39.1⟩:RN)]) (zga h1 h2 (U rfl rfl)) (fun _=>rfl)) (fun _=>rfl) hy41 rfl ha) rfl rfl (.inl rfl) rfl ?_;refine h5 ?_;refine ks (fun _ U W=>sB (ns:=[_,_]) sizeOf97 U U rfl rfl (W rfl rfl) rfl rfl)<|PQe.nil ?_;refine g5 ?_;refine zx [0,2,3,10,11] [2,3,100,1100,30061] ?_;refine zE ?_;obtain⟨y42,hy43,h⟩:=zV h;refine xO [(100,100)] [] [100] (zu hy43) call68 ?_;refine zE ?_;refine zD h (fun h=>?_) fun h=>?_
   ·refine wZ ?_;exact⟨((v33++[(⟨y37.1,y39.1⟩:RN)]),y42.2.1,y42.2.2),(),h,sP⟩
   ·refine g5 ?_;refine zx [0,2,3,10,11] [2,3,100,1100,30061] ?_;refine zG ?_;exact⟨((IntKind.u64.wrap (v32+1)),(v33++[(⟨y37.1,y39.1⟩:RN)]),y42.2.1,y42.2.2),(),h,sP⟩
  ·refine wZ ?_;exact⟨(v33,v34,v35),(),h,sP⟩
 ·rintro⟨v7,v8,v9⟩ _ h;refine zE ?_;refine PWl.frzC (id:=30061) (oid:=3) (j:=1) (n:=v7.length) [] hK (.nil) rfl (by simp) rfl (by first | rfl | (congr 2;first | (simp;done) | (simp;omega) | omega)) rfl ?_;refine zQ ?_;refine wX ?_;cases h;exact EndsO.mkX (ex:=[(2,_)]) () (.inr rfl) (vJ [2] [100,1100,2]) (.cons (.agg isAgg99 sizeOf99 rfl rfl rfl)<|.nil) rfl rfl
theorem Vv{b_1 bad_2 r0}(h:(uc b_1 bad_2).wp (·=r0)):PObj prog 32 [.ref 100 0] [(100,.cells 135 [zW (eK .u8) b_1,zC .i64 bad_2])] [100] (zW PT.e r0.1) (fun _:Unit=>[(100,.cells 135 [zW (eK .u8) r0.2.1,zC .i64 r0.2.2])]):=by
 refine yY [0] func32 ntmps32 ?_;intro ctx hK pv;refine zE ?_;refine ws (aR 99 2 rfl) ?_;refine zQ ?_;refine ws (aR 99 2 rfl) ?_;refine zK ?_;obtain⟨y3,hy4,h⟩:=zV h;refine xO [(100,100)] [] [100] (zg hy4) call29 ?_;refine zE ?_;refine wq (zO h) 23 [0] [1100] (fun⟨c5,v6,v7⟩=>([(3,.row 3 (c5.length))],[(3,.row 99 2 (List.map PT.e c5)),(100,.cells 135 [zW (eK .u8) v6,zC .i64 v7])])) (fun h=>?_) ?_
 ·refine g5 ?_;refine zf h 23 [0,5] [1100] (fun⟨v26,c27,v28,v29⟩=>([(3,.row 3 (c27.length)),(6,zC .u64 v26)],[(3,.row 99 2 (List.map PT.e c27)),(100,.cells 135 [zW (eK .u8) v28,zC .i64 v29])])) ?_;rintro N ⟨v26,c27,v28,v29⟩ _ h;refine zK ?_;refine zD h (fun h=>?_) fun h=>?_
  ·refine ze ?_;obtain⟨y31,hy32,h⟩:=zV h;refine xO [(100,100)] [] [100] (QN hy32) call73<|ws (LR.buildSliceD [.tmp 10] WE rfl rfl (.cons rfl rfl rfl<|.nil) (by decide) (by decide)) ?_;obtain⟨hy33,h⟩:=zy h;refine ws (LR.appT (enc:=PT.e) (L:=c27) (R:=[y31.1]) [3,8] WE underlying28 rfl rfl rfl (Src.slT (enc:=PT.e) (R:=[y31.1]) rfl (fun _=>rfl)) (fun _=>rfl) hy33 rfl rfl) ?_;refine zQ ?_;refine zx [0,3,5,6] [3,100,1100] ?_;refine zE ?_;obtain⟨y34,hy35,h⟩:=zV h;refine xO [(100,100)] [] [100] (zu hy35) call68 ?_;refine zE ?_;refine zD h (fun h=>?_) fun h=>?_
   ·refine g5 ?_;refine zx [] [100,1100] ?_;refine g5 ?_;refine ws (aR 99 2 rfl) ?_;refine g5 ?_;refine wX ?_;cases h;exact EndsO.mk () (.inr rfl) (Sub.trans (Sub.frz [2] hK rfl vD (AllRow.get (.cons rfl<|.nil)))<|vJ [2] [100,1100]) (.cons (.tmp rfl)<|.nil) rfl rfl
   ·refine g5 ?_;refine zx [0,3,5,6] [3,100,1100] ?_;refine zG ?_;exact⟨((IntKind.u64.wrap (v26+1)),(c27++[y31.1]),y34.2.1,y34.2.2),(),h,sP⟩
  ·refine wZ ?_;exact⟨(c27,v28,v29),(),h,sP⟩
 ·rintro⟨c5,v6,v7⟩ _ h;refine zG ?_;obtain⟨v37,hy38,h⟩:=zV h;refine PWl.frz [3,17] hK (.cons rfl<|.cons rfl<|.nil) rfl (by simp) ?_;refine xN (YK hy38) call74 ?_;refine zE ?_;refine zD h (fun h=>?_) fun h=>?_
  ·refine zQ ?_;obtain⟨y40,hy41,h⟩:=zV h;refine xO [(100,100)] [] [100] (zd hy41) call70 ?_;refine zE ?_;refine zx [] [100,1100] ?_;refine g5 ?_;refine ws (aR 99 2 rfl) ?_;refine g5 ?_;refine wX ?_;cases h;exact EndsO.mk () (.inr rfl) (Sub.trans (Sub.frz [2] hK rfl vD (AllRow.get (.cons rfl<|.nil)))<|vJ [2] [100,1100]) (.cons (.tmp rfl)<|.nil) rfl rfl
  ·refine zY ?_;refine wX ?_;cases h;exact yl [2] [100,1100]
theorem Vw{b_1 bad_2 r0}(h:(ud b_1 bad_2).wp (·=r0)):PObj prog 110 [.ref 100 0] [(100,.cells 135 [zW (eK .u8) b_1,zC .i64 bad_2])] [100] (.agg (List.map .d (DT.e r0.1))) (fun _:Unit=>[(100,.cells 135 [zW (eK .u8) r0.2.1,zC .i64 r0.2.2])]):=by
 refine yY [0] func110 ntmps110 ?_;intro ctx hK pv;refine ze ?_;obtain⟨y3,hy4,h⟩:=zV h;refine xO [(100,100)] [] [100] (xz hy4) call30 ?_;refine zQ ?_;refine zx [0,2,3] [2,100,1100] ?_;refine zE ?_;refine ws (LR.convInt underlying23 (by rw[underlying22];rfl) rfl rfl) ?_;refine g5 ?_;obtain⟨y5,hy6,h⟩:=zV h;refine xO [(100,100)] [] [100] (zg hy6) call29<|ws (LR.build (ns:=[_,_]) um rfl rfl rfl) ?_;refine zK ?_;refine zx [0,2,4] [2,4,100,1100] ?_;refine zE ?_;obtain⟨v7,hy8,h⟩:=zV h;refine xN (YL hy8) call137 ?_;refine zE ?_;refine yF (zO h) 22 [0,2,4] [2,4,1100] (fun⟨v9,v10⟩=>([],[(100,.cells 135 [zW (eK .u8) v9,zC .i64 v10])])) (fun h=>?_) ?_
 ·refine zD h (fun h=>?_) fun h=>?_
  ·refine zE ?_;obtain⟨y12,hy13,h⟩:=zV h;refine xO [(100,100)] [] [100] (zd hy13) call70 ?_;refine g5 ?_;exact⟨(y12.1,y12.2),(),h,sP⟩
  ·refine g5 ?_;exact⟨(y5.2.1,y5.2.2),(),h,sP⟩
 ·rintro⟨v9,v10⟩ _ h;refine zG ?_;obtain⟨y14,hy15,h⟩:=zV h;refine xO [(100,100)] [] [100] (zu hy15) call68 ?_;refine zE ?_;refine zD h (fun h=>?_) fun h=>?_
  ·refine g5 ?_;refine zx [2] [2,100,1100] ?_;refine g5 ?_;refine ws (LR.build (ns:=[_,_]) um rfl rfl rfl) ?_;refine zE ?_;refine wX ?_;cases h;exact EndsO.mkX (ex:=[(2,_)]) () (.inr rfl) (vJ [2] [100,1100,2]) (.cons (.agg isAgg101 sizeOf101 rfl rfl rfl)<|.nil) rfl rfl
  ·refine zE ?_;refine zx [2,4] [2,4,100,1100] ?_;refine zG ?_;refine wX ?_;cases h;exact EndsO.mkX (ex:=[(2,_)]) () (.inr rfl) (vJ [2] [100,1100,2]) (.cons (.agg isAgg101 sizeOf101 rfl rfl rfl)<|.nil) rfl rfl
theorem Wl{most1 b_2 bad_3 r0}(h:(xx most1 b_2 bad_3).wp (·=r0)):PObj prog 111 [.ref 100 0,zC .i64 most1] [(100,.cells 135 [zW (eK .u8) b_2,zC .i64 bad_3])] [100] (.d (.v (.string r0.1))) (fun _:Unit=>[(100,.cells 135 [zW (eK .u8) r0.2.1,zC .i64 r0.2.2])]):=by
 refine yY [0,1] func111 ntmps111 ?_;intro ctx hK pv;refine ze ?_;obtain⟨y4,hy5,h⟩:=zV h;refine xO [(100,100)] [] [100] (zg hy5) call29 ?_;refine zK ?_;refine zx [0,1,5] [100,1100] ?_;refine zE ?_;obtain⟨y6,hy7,h⟩:=zV h;refine xO [(100,100)] [] [100] (zu hy7) call68 ?_;refine zQ ?_;refine zD h (fun h=>?_) fun h=>?_
 ·refine g5 ?_;refine zx [] [100,1100] ?_;refine zQ ?_;refine wX ?_;cases h;exact yl [4] [100,1100]
 ·refine g5 ?_;refine zx [0,1,5] [100,1100] ?_;refine zG ?_;refine ws (LR.convInt underlying22 (by rw[underlying3];rfl) rfl rfl) ?_;refine zQ ?_;refine zD h (fun h=>?_) fun h=>?_
  ·refine zQ ?_;obtain⟨y10,hy11,h⟩:=zV h;refine xO [(100,100)] [] [100] (zd hy11) call70 ?_;refine zE ?_;refine zx [] [100,1100] ?_;refine zQ ?_;refine wX ?_;cases h;exact yl [4] [100,1100]
  ·refine zG ?_;obtain⟨y12,hy13,h⟩:=zV h;refine xO [(100,100)] [] [100] (vW hy13) call77 ?_;refine ws (LR.convInt underlying22 (by rw[underlying3];rfl) rfl rfl) ?_;refine zQ ?_;refine zD h (fun h=>?_) fun h=>?_
   ·refine g5 ?_;refine zx [0] [100,1100] ?_;refine zE ?_;obtain⟨y15,hy16,h⟩:=zV h;refine xO [(100,100)] [] [100] (zd hy16) call70 ?_;refine zE ?_;refine zx [] [100,1100] ?_;refine zQ ?_;refine wX ?_;cases h;exact yl [4] [100,1100]
   ·refine zE ?_;refine zx [0,5] [100,1100] ?_;refine zK ?_;refine ws (LR.convInt underlying3 (by rw[underlying22];rfl) rfl rfl) ?_;obtain⟨y17,hy18,h⟩:=zV h;refine xO [(100,100)] [] [100] (uF hy18) call71 ?_;refine zQ ?_;refine wX ?_;cases h;exact yl [4] [100,1100]
theorem QO{most1 b_2 bad_3 r0}(h:(uz most1 b_2 bad_3).wp (·=r0)):PObj prog 112 [.ref 100 0,zC .i64 most1] [(100,.cells 135 [zW (eK .u8) b_2,zC .i64 bad_3])] [100] (zW DT.e r0.1) (fun _:Unit=>[(100,.cells 135 [zW (eK .u8) r0.2.1,zC .i64 r0.2.2])]):=by
 refine yY [0,1] func112 ntmps112 ?_;intro ctx hK pv;refine zE ?_;refine ws (aR 101 2 rfl) ?_;refine zG ?_;obtain⟨y4,hy5,h⟩:=zV h;refine xO [(100,100)] [] [100] (zg hy5) call29 ?_;refine zG ?_;refine zx [0,1,5] [100,1100] ?_;refine zG ?_;refine ws (LR.convInt underlying22 (by rw[underlying3];rfl) rfl rfl) ?_;refine zE ?_;refine zD h (fun h=>?_) fun h=>?_
 ·refine zQ ?_;obtain⟨y7,hy8,h⟩:=zV h;refine xO [(100,100)] [] [100] (zd hy8) call70 ?_;refine zE ?_;refine zx [] [100,1100] ?_;refine g5 ?_;refine ws (aR 101 2 rfl) ?_;refine g5 ?_;refine wX ?_;cases h;exact EndsO.mk () (.inr rfl) (Sub.trans (Sub.frz [4] hK rfl vD (AllRow.get (.cons rfl<|.nil)))<|vJ [4] [100,1100]) (.cons (.tmp rfl)<|.nil) rfl rfl
 ·refine zQ ?_;refine ws (aR 101 2 rfl) ?_;refine ze ?_;refine wq (zO h) 48 [] [1100] (fun⟨out9,v10,v11⟩=>([(6,.row 6 (out9.length))],[(6,.row 101 2 (List.map DT.e out9)),(100,.cells 135 [zW (eK .u8) v10,zC .i64 v11])])) (fun h=>?_) ?_
  ·refine g5 ?_;refine zf h 48 [0,18] [1100] (fun⟨v52,out53,v54,v55⟩=>([(6,.row 6 (out53.length)),(19,zC .u64 v52)],[(6,.row 101 2 (List.map DT.e out53)),(100,.cells 135 [zW (eK .u8) v54,zC .i64 v55])])) ?_;rintro N ⟨v52,out53,v54,v55⟩ _ h;refine zK ?_;refine zD h (fun h=>?_) fun h=>?_
   ·refine zY ?_;obtain⟨y57,hy58,h⟩:=zV h;refine xO [(100,100)] [] [100] (Vw hy58) call110 ?_;refine zK ?_;refine zx [0,6,7,18,19] [6,7,100,1100] ?_;refine ze ?_;refine yF (zO h) 48 [0,6,7,18,19] [6,7,100,1100] (fun v59=>([(36,.d (.v (.bool v59)))],[])) (fun h=>?_) ?_
    ·refine g5 ?_;refine yC ?_;refine vn 28 h (fun h=>?_) fun h=>?_
     ·refine yW ?_;obtain⟨x61,hy62,h⟩:=yO h;refine qt (fun _ U W=>LR.idxRowT (L:=out53) (y:=x61) underlying102 sizeOf101 U rfl U hy62) ?_;refine qt (fun _ U W=>LR.loadRpT (enc:=DT.e) (L:=out53) (y:=x61) isAgg101 sizeOf101 U (W rfl) hy62.2) ?_;refine h5 ?_;obtain⟨v63,hy64,h⟩:=zV h;refine qt (fun _ U W=>cN (XI hy64) U call76 (Ya (fun a b=>U a b) rfl rfl) rfl rfl rfl) ?_;refine yC ?_;exact⟨(decide (0<=v63)),(),h,sP⟩
     ·refine yBa ?_;exact⟨false,(),h,sP⟩
    ·rintro v59 _ h;refine yF (zO h) 48 [0,6,7,18,19] [6,7,1100] (fun⟨v65,v66⟩=>([],[(100,.cells 135 [zW (eK .u8) v65,zC .i64 v66])])) (fun h=>?_) ?_
     ·refine zD h (fun h=>?_) fun h=>?_
      ·refine zE ?_;obtain⟨y68,hy69,h⟩:=zV h;refine xO [(100,100)] [] [100] (zd hy69) call70 ?_;refine g5 ?_;exact⟨(y68.1,y68.2),(),h,sP⟩
      ·refine g5 ?_;exact⟨(y57.2.1,y57.2.2),(),h,sP⟩
     ·rintro⟨v65,v66⟩ _ h;refine zG ?_;obtain⟨y70,hy71,h⟩:=zV h;refine xO [(100,100)] [] [100] (zu hy71) call68 ?_;refine zE ?_;refine zD h (fun h=>?_) fun h=>?_
      ·refine g5 ?_;refine zx [] [100,1100] ?_;refine g5 ?_;refine ws (aR 101 2 rfl) ?_;refine g5 ?_;refine wX ?_;cases h;exact EndsO.mk () (.inr rfl) (Sub.trans (Sub.frz [4] hK rfl vD (AllRow.get (.cons rfl<|.nil)))<|vJ [4] [100,1100]) (.cons (.tmp rfl)<|.nil) rfl rfl
      ·refine g5 ?_;refine zx [0,6,7,18,19] [6,7,100,1100] ?_;refine zQ ?_;refine ws (LR.buildSliceD [.tmp 43] wn rfl rfl (.cons rfl rfl rfl<|.nil) (by decide) (by decide)) ?_;obtain⟨hy73,h⟩:=zy h;refine ws (LR.appT (enc:=DT.e) (L:=out53) (R:=[y57.1]) [6,42] wn underlying102 rfl rfl rfl (Src.slT (enc:=DT.e) (R:=[y57.1]) rfl (fun _=>rfl)) (fun _=>rfl) hy73 rfl rfl) ?_;refine zY ?_;exact⟨((IntKind.u64.wrap (v52+1)),(out53++[y57.1]),y70.2.1,y70.2.2),(),h,sP⟩
   ·refine wZ ?_;exact⟨(out53,v54,v55),(),h,sP⟩
  ·rintro⟨out9,v10,v11⟩ _ h;refine zK ?_;refine wX ?_;cases h;exact EndsO.mk () (.inr rfl) (Sub.trans (Sub.frz [4,6,47] hK rfl (by simp) (AllRow.get (.cons rfl<|.cons rfl<|.cons rfl<|.nil)))<|vJ [4] [100,1100]) (.cons (.tmp rfl)<|.nil) rfl rfl
theorem zPa{b_1 bad_2 r0}(h:(Xn b_1 bad_2).wp (·=r0)):PObj prog 75 [.ref 100 0] [(100,.cells 135 [zW (eK .u8) b_1,zC .i64 bad_2])] [100] (.agg (List.map .d (EV.e r0.1))) (fun _:Unit=>[(100,.cells 135 [zW (eK .u8) r0.2.1,zC .i64 r0.2.2])]):=by
 refine yY [0] func75 ntmps75 ?_;intro ctx hK pv;refine ze ?_;obtain⟨y3,hy4,h⟩:=zV h;refine xO [(100,100)] [] [100] (Vw hy4) call110<|ws (LR.build (ns:=[_,_,_,_,_,_,_]) Jj rfl rfl rfl) ?_;refine zG ?_;refine zx [0,2,3] [2,3,100,1100] ?_;refine zE ?_;obtain⟨y5,hy6,h⟩:=zV h;refine xO [(100,100)] [] [100] (vX hy6) call72 ?_;refine zG ?_;refine zx [0,2,3] [2,3,100,1100] ?_;refine zE ?_;obtain⟨y7,hy8,h⟩:=zV h;refine xO [(100,100)] [] [100] (zg hy8) call29 ?_;refine zG ?_;refine zx [0,2,3] [2,3,100,1100] ?_;refine zE ?_;obtain⟨y9,hy10,h⟩:=zV h;refine xO [(100,100)] [] [100] (vX hy10) call72 ?_;refine zG ?_;refine zx [0,2,3] [2,3,100,1100] ?_;refine zE ?_;obtain⟨y11,hy12,h⟩:=zV h;refine xO [(100,100)] [] [100] (Wl hy12) call111 ?_;refine zG ?_;refine zx [0,2,3] [2,3,100,1100] ?_;refine zE ?_;obtain⟨y13,hy14,h⟩:=zV h;refine xO [(100,100)] [] [100] (QO hy14) call112 ?_;refine zK ?_;refine zx [0,2,3] [2,3,100,1100] ?_;refine zE ?_;obtain⟨v15,hy16,h⟩:=zV h;refine xN (Xq hy16) call113 ?_;refine zE ?_;refine yF (zO h) 32 [0,2,3] [2,3,1100] (fun⟨v17,v18⟩=>([],[(100,.cells 135 [zW (eK .u8) v17,zC .i64 v18])])) (fun h=>?_) ?_
 ·refine zD h (fun h=>?_) fun h=>?_
  ·refine zE ?_;obtain⟨y20,hy21,h⟩:=zV h;refine xO [(100,100)] [] [100] (zd hy21) call70 ?_;refine g5 ?_;exact⟨(y20.1,y20.2),(),h,sP⟩
  ·refine g5 ?_;exact⟨(y13.2.1,y13.2.2),(),h,sP⟩
 ·rintro⟨v17,v18⟩ _ h;refine zG ?_;obtain⟨y22,hy23,h⟩:=zV h;refine xO [(100,100)] [] [100] (zu hy23) call68 ?_;refine zE ?_;refine zD h (fun h=>?_) fun h=>?_
  ·refine g5 ?_;refine zx [2] [2,100,1100] ?_;refine g5 ?_;refine ws (LR.build (ns:=[_,_,_,_,_,_,_]) Jj rfl rfl rfl) ?_;refine zE ?_;refine wX ?_;cases h;exact EndsO.mkX (ex:=[(2,_)]) () (.inr rfl) (vJ [2] [100,1100,2]) (.cons (.agg isAgg104 sizeOf104 rfl rfl rfl)<|.nil) rfl rfl
  ·refine zE ?_;refine zx [2,3] [2,3,100,1100] ?_;refine zG ?_;refine wX ?_;cases h;exact EndsO.mkX (ex:=[(2,_)]) () (.inr rfl) (vJ [2] [100,1100,2]) (.cons (.agg isAgg104 sizeOf104 rfl rfl rfl)<|.nil) rfl rfl
theorem jt{most1 b_2 bad_3 r0}(h:(vy most1 b_2 bad_3).wp (·=r0)):PObj prog 33 [.ref 100 0,zC .i64 most1] [(100,.cells 135 [zW (eK .u8) b_2,zC .i64 bad_3])] [100] (zW EV.e r0.1) (fun _:Unit=>[(100,.cells 135 [zW (eK .u8) r0.2.1,zC .i64 r0.2.2])]):=by
 refine yY [0,1] func33 ntmps33 ?_;intro ctx hK pv;refine zE ?_;refine ws (aR 104 7 rfl) ?_;refine zG ?_;obtain⟨y4,hy5,h⟩:=zV h;refine xO [(100,100)] [] [100] (zg hy5) call29 ?_;refine zG ?_;refine zx [0,1,5] [100,1100] ?_;refine zG ?_;refine ws (LR.convInt underlying22 (by rw[underlying3];rfl) rfl rfl) ?_;refine zE ?_;refine zD h (fun h=>?_) fun h=>?_
 ·refine zQ ?_;obtain⟨y7,hy8,h⟩:=zV h;refine xO [(100,100)] [] [100] (zd hy8) call70 ?_;refine zE ?_;refine zx [] [100,1100] ?_;refine g5 ?_;refine ws (aR 104 7 rfl) ?_;refine g5 ?_;refine wX ?_;cases h;exact EndsO.mk () (.inr rfl) (Sub.trans (Sub.frz [4] hK rfl vD (AllRow.get (.cons rfl<|.nil)))<|vJ [4] [100,1100]) (.cons (.tmp rfl)<|.nil) rfl rfl
 ·refine zQ ?_;refine ws (aR 104 7 rfl) ?_;refine ze ?_;refine wq (zO h) 50 [] [1100] (fun⟨out9,v10,v11⟩=>([(6,.row 6 (out9.length))],[(6,.row 104 7 (List.map EV.e out9)),(100,.cells 135 [zW (eK .u8) v10,zC .i64 v11])])) (fun h=>?_) ?_
  ·refine g5 ?_;refine zf h 50 [0,18] [1100] (fun⟨v52,out53,v54,v55⟩=>([(6,.row 6 (out53.length)),(19,zC .u64 v52)],[(6,.row 104 7 (List.map EV.e out53)),(100,.cells 135 [zW (eK .u8) v54,zC .i64 v55])])) ?_;rintro N ⟨v52,out53,v54,v55⟩ _ h;refine zK ?_;refine zD h (fun h=>?_) fun h=>?_
   ·refine zY ?_;obtain⟨y57,hy58,h⟩:=zV h;refine xO [(100,100)] [] [100] (zPa hy58) call75 ?_;refine zK ?_;refine zx [0,6,7,18,19] [6,7,100,1100] ?_;refine ze ?_;refine yF (zO h) 50 [0,6,7,18,19] [6,7,100,1100] (fun v59=>([(38,.d (.v (.bool v59)))],[])) (fun h=>?_) ?_
    ·refine g5 ?_;refine yC ?_;refine vn 28 h (fun h=>?_) fun h=>?_
     ·refine yW ?_;obtain⟨x61,hy62,h⟩:=yO h;refine qt (fun _ U W=>LR.idxRowT (L:=out53) (y:=x61) underlying29 sizeOf104 U rfl U hy62) ?_;refine h5 ?_;refine qt (fun _ U W=>LR.loadRpPartT (enc:=EV.e) (L:=out53) (y:=x61) isAgg101 sizeOf101 U (W rfl) hy62.2 rfl rfl) ?_;refine yW ?_;obtain⟨v63,hy64,h⟩:=zV h;refine qt (fun _ U W=>cN (XI hy64) U call76 (Ya (fun a b=>U a b) rfl rfl) rfl rfl rfl) ?_;refine yC ?_;exact⟨(decide (0<=v63)),(),h,sP⟩
     ·refine YOa ?_;exact⟨false,(),h,sP⟩
    ·rintro v59 _ h;refine yF (zO h) 50 [0,6,7,18,19] [6,7,1100] (fun⟨v65,v66⟩=>([],[(100,.cells 135 [zW (eK .u8) v65,zC .i64 v66])])) (fun h=>?_) ?_
     ·refine zD h (fun h=>?_) fun h=>?_
      ·refine zE ?_;obtain⟨y68,hy69,h⟩:=zV h;refine xO [(100,100)] [] [100] (zd hy69) call70 ?_;refine g5 ?_;exact⟨(y68.1,y68.2),(),h,sP⟩
      ·refine g5 ?_;exact⟨(y57.2.1,y57.2.2),(),h,sP⟩
     ·rintro⟨v65,v66⟩ _ h;refine zG ?_;obtain⟨y70,hy71,h⟩:=zV h;refine xO [(100,100)] [] [100] (zu hy71) call68 ?_;refine zE ?_;refine zD h (fun h=>?_) fun h=>?_
      ·refine g5 ?_;refine zx [] [100,1100] ?_;refine g5 ?_;refine ws (aR 104 7 rfl) ?_;refine g5 ?_;refine wX ?_;cases h;exact EndsO.mk () (.inr rfl) (Sub.trans (Sub.frz [4] hK rfl vD (AllRow.get (.cons rfl<|.nil)))<|vJ [4] [100,1100]) (.cons (.tmp rfl)<|.nil) rfl rfl
      ·refine g5 ?_;refine zx [0,6,7,18,19] [6,7,100,1100] ?_;refine zQ ?_;refine ws (LR.buildSliceD [.tmp 45] JO rfl rfl (.cons rfl rfl rfl<|.nil) (by decide) (by decide)) ?_;obtain⟨hy73,h⟩:=zy h;refine ws (LR.appT (enc:=EV.e) (L:=out53) (R:=[y57.1]) [6,44] JO underlying29 rfl rfl rfl (Src.slT (enc:=EV.e) (R:=[y57.1]) rfl (fun _=>rfl)) (fun _=>rfl) hy73 rfl rfl) ?_;refine zY ?_;exact⟨((IntKind.u64.wrap (v52+1)),(out53++[y57.1]),y70.2.1,y70.2.2),(),h,sP⟩
   ·refine wZ ?_;exact⟨(out53,v54,v55),(),h,sP⟩
  ·rintro⟨out9,v10,v11⟩ _ h;refine zK ?_;refine wX ?_;cases h;exact EndsO.mk () (.inr rfl) (Sub.trans (Sub.frz [4,6,49] hK rfl (by simp) (AllRow.get (.cons rfl<|.cons rfl<|.cons rfl<|.nil)))<|vJ [4] [100,1100]) (.cons (.tmp rfl)<|.nil) rfl rfl
theorem Vn{b_1 bad_2 r0}(h:(wi b_1 bad_2).wp (·=r0)):PObj prog 34 [.ref 100 0] [(100,.cells 135 [zW (eK .u8) b_1,zC .i64 bad_2])] [100] (zC .i64 r0.1) (fun _:Unit=>[(100,.cells 135 [zW (eK .u8) r0.2.1,zC .i64 r0.2.2])]):=by
 refine yY [0] func34 ntmps34 ?_;intro ctx hK pv;refine zl ?_;obtain⟨y3,hy4,h⟩:=zV h;refine xO [(100,100)] [] [100] (vW hy4) call77 ?_;refine zE ?_;refine yF (zO h) 10 [0] [1100] (fun⟨v5,v6⟩=>([],[(100,.cells 135 [zW (eK .u8) v5,zC .i64 v6])])) (fun h=>?_) ?_
 ·refine zD h (fun h=>?_) fun h=>?_
  ·refine zx [0] [100,1100] ?_;refine zE ?_;obtain⟨y8,hy9,h⟩:=zV h;refine xO [(100,100)] [] [100] (zd hy9) call70 ?_;refine g5 ?_;exact⟨(y8.1,y8.2),(),h,sP⟩
  ·refine g5 ?_;exact⟨(y3.2.1,y3.2.2),(),h,sP⟩
 ·rintro⟨v5,v6⟩ _ h;refine zQ ?_;obtain⟨y10,hy11,h⟩:=zV h;refine xO [(100,100)] [] [100] (zu hy11) call68 ?_;refine zE ?_;refine wX ?_;cases h;exact yl [2] [100,1100]
theorem xha{b1 r0}(h:(Ux b1).wp (·=r0)):PFun prog 11 [zW (eK .u8) b1] (.tup [.agg (List.map .d (THubState.e r0.1)),zC .i64 r0.2]):=by
 refine ya [0] func11 ntmps11 ?_;intro ctx hK;refine zl ?_;obtain⟨y2,hy3,h⟩:=zV h;refine xO [(7,10)] [] [7] (yZa hy3) call28 ?_;refine zQ ?_;refine zx [2,4] [2,10] ?_;refine zE ?_;obtain⟨y4,hy5,h⟩:=zV h;refine xO [(100,10)] [] [100] (zg hy5) call29<|ws (LR.buildR (ns:=[_,_,_,_,_,_,_]) UH rfl rfl rfl) ?_;refine zE ?_;refine PWl.sub (Sub.nilCell (id:=5) (j:=2) rfl rfl)<|PWl.sub (Sub.ownNil (id:=5) (j:=3) (id':=30103) (e:=22) (k:=1) rfl rfl rfl rfl)<|PWl.sub (Sub.ownNil (id:=5) (j:=4) (id':=30104) (e:=51) (k:=2) rfl rfl rfl rfl)<|PWl.sub (Sub.nilCell (id:=5) (j:=5) rfl rfl)<|PWl.sub (Sub.nilCell (id:=5) (j:=6) rfl rfl) ?_;refine zE ?_;refine zx [2,4,5] [2,5,10,30103,30104] ?_;refine zE ?_;obtain⟨y6,hy7,h⟩:=zV h;refine xO [(100,10)] [] [100] (xz hy7) call30 ?_;refine ws (LR.convInt underlying23 (by rw[underlying22];rfl) rfl rfl) ?_;refine zG ?_;refine zx [2,4,5] [2,5,10,30103,30104] ?_;refine zE ?_;obtain⟨y8,hy9,h⟩:=zV h;refine xO [(100,10)] [] [100] (jF hy9) call31 ?_;refine zK ?_;refine zx [2,4,5] [2,5,10,30103,30104] ?_;refine zQ ?_;refine yF (zO h) 66 [2,4,5] [2,30104] (fun⟨v10,v11,v12⟩=>([],[(5,.cells 31 [zC .u64 y4.1,zC .u16 (IntKind.u16.wrap y6.1),zW TMember.e y8.1,.row 30103 (v10.length),.row 30104 0,zW PT.e ([]:List PT),zW EV.e ([]:List EV)]),(10,.cells 135 [zW (eK .u8) v11,zC .i64 v12]),(30103,.row 22 1 (List.map (eK .u64) v10))])) (fun h=>?_) ?_
 ·refine g5 ?_;refine zf h 66 [2,4,5] [2,30104] (fun⟨v25,v26,v27,v28⟩=>([(21,zC .i64 v25)],[(5,.cells 31 [zC .u64 y4.1,zC .u16 (IntKind.u16.wrap y6.1),zW TMember.e y8.1,.row 30103 (v26.length),.row 30104 0,zW PT.e ([]:List PT),zW EV.e ([]:List EV)]),(10,.cells 135 [zW (eK .u8) v27,zC .i64 v28]),(30103,.row 22 1 (List.map (eK .u64) v26))])) ?_;rintro N ⟨v25,v26,v27,v28⟩ _ h;refine zK ?_;refine zD h (fun h=>?_) fun h=>?_
  ·refine zQ ?_;refine zx [2,4,5,21] [2,5,10,30103,30104] ?_;refine PWc.regionE [yf [23] [5],⟨[24],[],[5],[],[],[30103],[],[]⟩,yf [25] [10],⟨[26],[10],[10],[],[],[],[],[]⟩,{ws:=[27]},⟨[24,28],[5,30103],[5,30103],[],[(30103,[24])],[30103],[30104],[5]⟩,yf [29] [5],⟨[],[5],[5,30103],[],[],[],[30103,30104],[]⟩] (by kernel_rfl) (by kernel_rfl) rfl ?_;refine yC ?_;obtain⟨y30,hy31,h⟩:=zV h;refine PQe.callObj [(100,10)] [] [100] (zg hy31) hK (fun _ U=>⟨U rfl rfl,Ya U rfl rfl⟩) call29 (by first | rfl | (simp;done) | (simp[PV.nilD,PV.ren,rn] <;> omega)) (.cons YMa<|.nil) rfl rfl rfl rfl (.inl rfl) rfl ?_;refine kp (fun _ U W=>LR.buildSliceD [.tmp 26] XB rfl rfl (.cons U rfl rfl<|.nil) (by decide) (by decide)) ?_;obtain⟨hy32,h⟩:=zy h;refine PQe.stepX [24] (fun _ U W ha=>LR.appC (enc:=(eK .u64)) (L:=v26) (R:=[y30.1]) (j:=3) [24] XB underlying25 (U rfl rfl) rfl (W rfl rfl) (W rfl rfl) rfl rfl (fun _ h1 h2=>Src.slT (enc:=(eK .u64)) (R:=[y30.1]) (zga h1 h2 (U rfl rfl)) (fun _=>rfl)) (fun _=>rfl) hy32 rfl ha) rfl rfl (.inl rfl) rfl ?_;refine h5 ?_;refine ks (fun _ U W=>sB (ns:=[_,_,_,_,_,_,_]) sizeOf25 U U rfl rfl (W rfl rfl) rfl rfl)<|PQe.nil<|zx [2,4,5,21] [2,5,10,30103,30104] ?_;refine zG ?_;exact⟨((IntKind.i64.wrap (v25+1)),(v26++[y30.1]),y30.2.1,y30.2.2),(),h,sP⟩
  ·refine wZ ?_;exact⟨(v26,v27,v28),(),h,sP⟩
 ·rintro⟨v10,v11,v12⟩ _ h;refine zl ?_;refine yF (zO h) 66 [2,4,5] [2,30103] (fun⟨v33,v34,v35⟩=>([],[(5,.cells 31 [zC .u64 y4.1,zC .u16 (IntKind.u16.wrap y6.1),zW TMember.e y8.1,.row 30103 (v10.length),.row 30104 (v33.length),zW PT.e ([]:List PT),zW EV.e ([]:List EV)]),(10,.cells 135 [zW (eK .u8) v34,zC .i64 v35]),(30104,.row 51 2 (List.map TRow.e v33))])) (fun h=>?_) ?_
  ·refine g5 ?_;refine zf h 66 [2,4,5,32,33] [2,30103] (fun⟨v52,v53,v54,v55⟩=>([(34,zC .i64 v52)],[(5,.cells 31 [zC .u64 y4.1,zC .u16 (IntKind.u16.wrap y6.1),zW TMember.e y8.1,.row 30103 (v10.length),.row 30104 (v53.length),zW PT.e ([]:List PT),zW EV.e ([]:List EV)]),(10,.cells 135 [zW (eK .u8) v54,zC .i64 v55]),(30104,.row 51 2 (List.map TRow.e v53))])) ?_;rintro N ⟨v52,v53,v54,v55⟩ _ h;refine zK ?_;refine zD h (fun h=>?_) fun h=>?_
   ·refine zK ?_;obtain⟨x57,hy58,h⟩:=yO h;refine xK hy58 ?_;refine zG ?_;refine zx [2,4,5,7,32,33,34] [2,5,7,10,30103,30104] ?_;refine PWc.regionE [yf [38] [5],⟨[39],[],[5],[],[],[30104],[],[]⟩,yf [40] [7],⟨[41],[],[7],[],[],[],[],[]⟩,yf [42] [10],⟨[43],[10],[10],[],[],[],[],[]⟩,{ws:=[44]},{ws:=[45]},⟨[39,46],[5,30104],[5,30104],[],[(30104,[39])],[30104],[30103],[5]⟩,yf [47] [5],⟨[],[5],[5,30104],[],[],[],[30103,30104],[]⟩] (by kernel_rfl) (by kernel_rfl) rfl ?_;refine WJ ?_;obtain⟨y59,hy60,h⟩:=zV h;refine PQe.callObj [(100,10)] [] [100] (Vv hy60) hK (fun _ U=>⟨U rfl rfl,Ya U rfl rfl⟩) call32 (by first | rfl | (simp;done) | (simp[PV.nilD,PV.ren,rn] <;> omega)) (.cons YMa<|.nil) rfl rfl rfl rfl (.inl rfl) rfl ?_;refine kp (fun _ U W=>LR.build (ns:=[_,_]) wla rfl (evpE (fun a b=>U a b) rfl rfl) rfl) ?_;refine kp (fun _ U W=>LR.buildSliceD [.tmp 44] JN rfl rfl (.cons U rfl rfl<|.nil) (by decide) (by decide)) ?_;obtain⟨hy61,h⟩:=zy h;refine PQe.stepX [39] (fun _ U W ha=>LR.appC (enc:=TRow.e) (L:=v53) (R:=[(⟨x57.dev,y59.1⟩:TRow)]) (j:=4) [39] JN underlying26 (U rfl rfl) rfl (W rfl rfl) (W rfl rfl) rfl rfl (fun _ h1 h2=>Src.slT (enc:=TRow.e) (R:=[(⟨x57.dev,y59.1⟩:TRow)]) (zga h1 h2 (U rfl rfl)) (fun _=>rfl)) (fun _=>rfl) hy61 rfl ha) rfl rfl (.inl rfl) rfl ?_;refine h5 ?_;refine ks (fun _ U W=>sB (ns:=[_,_,_,_,_,_,_]) sizeOf26 U U rfl rfl (W rfl rfl) rfl rfl)<|PQe.nil<|zx [2,4,5,32,33,34] [2,5,10,30103,30104] ?_;refine zG ?_;exact⟨((IntKind.i64.wrap (v52+1)),(v53++[(⟨x57.dev,y59.1⟩:TRow)]),y59.2.1,y59.2.2),(),h,sP⟩
   ·refine wZ ?_;exact⟨(v53,v54,v55),(),h,sP⟩
  ·rintro⟨v33,v34,v35⟩ _ h;refine zQ ?_;obtain⟨y62,hy63,h⟩:=zV h;refine xO [(100,10)] [] [100] (Vv hy63) call32 ?_;refine zG ?_;refine zx [2,4,5] [2,5,10,30103,30104] ?_;refine zE ?_;obtain⟨y64,hy65,h⟩:=zV h;refine xO [(100,10)] [] [100] (jt hy65) call33 ?_;refine zK ?_;refine zx [2,4,5] [2,5,10,30103,30104] ?_;refine zE ?_;obtain⟨y66,hy67,h⟩:=zV h;refine xO [(100,10)] [] [100] (Vn hy67) call34 ?_;refine zQ ?_;refine zx [2,5,8] [2,5,30103,30104] ?_;refine zG ?_;refine zD h (fun h=>?_) fun h=>?_
   ·refine zE ?_;refine ws (LR.build (ns:=[_,_,_,_,_,_,_]) UH rfl rfl rfl) ?_;refine zG ?_;refine wX ?_;cases h;exact⟨.inr rfl,_,.cons (.agg isAgg31 sizeOf31 rfl rfl rfl rfl)<|.cons (.tmp rfl rfl)<|.nil,rfl⟩
   ·refine zG ?_;refine PWl.frzC (id:=30103) (oid:=5) (j:=3) (n:=v10.length) [] hK (.nil) rfl (by simp) rfl (by first | rfl | (congr 2;first | (simp;done) | (simp;omega) | omega)) rfl ?_;refine PWl.frzC (id:=30104) (oid:=5) (j:=4) (n:=v33.length) [] hK (.nil) rfl (by simp) rfl (by first | rfl | (congr 2;first | (simp;done) | (simp;omega) | omega)) rfl ?_;refine g5 ?_;obtain⟨v69,hy70,h⟩:=zV h;refine xN (jB hy70) call18 ?_;refine zE ?_;refine zD h (fun h=>?_) fun h=>?_
    ·refine zE ?_;refine ws (LR.build (ns:=[_,_,_,_,_,_,_]) UH rfl rfl rfl) ?_;refine zQ ?_;refine wX ?_;cases h;exact⟨.inr rfl,_,.cons (.agg isAgg31 sizeOf31 rfl rfl rfl rfl)<|.cons (.tmp rfl rfl)<|.nil,rfl⟩
    ·refine ze ?_;refine wX ?_;cases h;exact⟨.inr rfl,_,.cons (.agg isAgg31 sizeOf31 rfl rfl rfl rfl)<|.cons (.tmp rfl rfl)<|.nil,rfl⟩
theorem vBa{b1 at2 r0}(h:(Jy b1 at2).wp (·=r0)):PFun prog 78 [zW (eK .u8) b1,zC .i64 at2] (.tup [zC .u64 r0.1,zC .i64 r0.2.1,zC .i64 r0.2.2]):=by
 refine ya [0,1] func78 ntmps78 ?_;intro ctx hK;refine zl ?_;refine yF (zO h) 74 [0,1] [] (fun v3=>([(18,.d (.v (.bool v3)))],[])) (fun h=>?_) ?_
 ·refine zG ?_;refine yK 13 h (fun h=>?_) fun h=>?_
  ·refine zY ?_;exact⟨true,(),h,sP⟩
  ·refine zY ?_;exact⟨(decide ((b1.length:Int) < at2)),(),h,sP⟩
 ·rintro v3 _ h;refine zD h (fun h=>?_) fun h=>?_
  ·refine zY ?_;refine wX ?_;cases h;exact Um
  ·refine ym ?_;refine zD h (fun h=>?_) fun h=>?_
   ·refine zY ?_;refine wX ?_;cases h;exact Um
   ·refine zK ?_;obtain⟨x7,hy8,h⟩:=yO h;refine xK hy8 ?_;refine g5 ?_;refine ws (LR.convInt underlying3 (by rw[underlying5];rfl) rfl rfl) ?_;refine vu ?_;refine yF (zO h) 74 [0,1,7,8] [] (fun v9=>([(50,.d (.v (.bool v9)))],[])) (fun h=>?_) ?_
    ·refine zQ ?_;refine xd [0,1,7,8,34] [] ?_;refine g5 ?_;refine yK 35 h (fun h=>?_) fun h=>?_
     ·refine JP ?_;refine xd [0,1,7,8,35,49] [] ?_;refine zE ?_;exact⟨true,(),h,sP⟩
     ·refine zQ ?_;refine yK 38 h (fun h=>?_) fun h=>?_
      ·refine zG ?_;refine yK 42 h (fun h=>?_) fun h=>?_
       ·refine zQ ?_;obtain⟨x13,hy14,h⟩:=yO h;refine zba hy14 ?_;refine g5 ?_;refine xd [0,1,7,8,35,42,47] [] ?_;refine zG ?_;exact⟨(decide (x13=0)),(),h,sP⟩
       ·refine zK ?_;refine xd [0,1,7,8,35,42,47] [] ?_;refine zG ?_;exact⟨false,(),h,sP⟩
      ·refine wV ?_;refine xd [0,1,7,8,35,42,48] [] ?_;refine zQ ?_;exact⟨false,(),h,sP⟩
    ·rintro v9 _ h;refine zD h (fun h=>?_) fun h=>?_
     ·refine zY ?_;refine wX ?_;cases h;exact Um
     ·refine zl ?_;refine zD h (fun h=>?_) fun h=>?_
      ·refine zY ?_;refine wX ?_;cases h;exact Um
      ·refine wV ?_;refine yF (zO h) 74 [1,7] [] (fun v17=>([(9,zC .u64 v17)],[])) (fun h=>?_) ?_
       ·refine g5 ?_;refine zf h 74 [0,1,7] [] (fun⟨v26,i27⟩=>([(9,zC .u64 v26),(10,zC .i64 i27)],[])) ?_;rintro N ⟨v26,i27⟩ _ h;refine ze ?_;refine zD h (fun h=>?_) fun h=>?_
        ·refine wV ?_;obtain⟨x29,hy30,h⟩:=yO h;refine xK hy30 ?_;refine g5 ?_;refine ws (LR.convInt underlying22 (by rw[underlying5];rfl) rfl rfl) ?_;refine zY ?_;refine xd [0,1,7,9,10,58] [] ?_;refine zE ?_;exact⟨((IntKind.u64.wrap ((IntKind.u64.wrap (v26*256))+(IntKind.u64.wrap x29))),(IntKind.i64.wrap (i27+1))),(),h,sP⟩
        ·refine wZ ?_;exact⟨v26,(),h,sP⟩
       ·rintro v17 _ h;refine vi ?_;refine wX ?_;cases h;exact Um
theorem zP{e1 b_2 at_3 bad_4 r0}(h:(zI e1 b_2 at_3 bad_4).wp (·=r0)):PObj prog 37 [.ref 100 0,zC .i64 e1] [(100,.cells 88 [zW (eK .u8) b_2,zC .i64 at_3,zC .i64 bad_4])] [100] (.tup []) (fun _:Unit=>[(100,.cells 88 [zW (eK .u8) r0.1,zC .i64 r0.2.1,zC .i64 r0.2.2])]):=by
 refine yY [0,1] func37 ntmps37 ?_;intro ctx hK pv;refine zl ?_;refine zD h (fun h=>?_) fun h=>?_
 ·refine ze ?_;cases h;exact yl [] [100,1100]
 ·refine g5 ?_;cases h;exact yl [] [100,1100]
theorem zS{b_1 at_2 bad_3 r0}(h:(zL b_1 at_2 bad_3).wp (·=r0)):PObj prog 35 [.ref 100 0] [(100,.cells 88 [zW (eK .u8) b_1,zC .i64 at_2,zC .i64 bad_3])] [100] (zC .u64 r0.1) (fun _:Unit=>[(100,.cells 88 [zW (eK .u8) r0.2.1,zC .i64 r0.2.2.1,zC .i64 r0.2.2.2])]):=by
 refine yY [0] func35 ntmps35 ?_;intro ctx hK pv;refine vu ?_;refine zD h (fun h=>?_) fun h=>?_
 ·refine zG ?_;refine wX ?_;cases h;exact yl [2] [100,1100]
 ·refine zQ ?_;refine woa ?_;obtain⟨v5,hy6,h⟩:=zV h;refine qs (fun _ U W=>cN (vBa hy6) U call78 (Ya (fun a b=>U a b) rfl rfl) rfl rfl rfl) ?_;refine woa ?_;refine zQ ?_;refine xd [0,3,4,5] [100,1100] ?_;refine zQ ?_;refine zD h (fun h=>?_) fun h=>?_
  ·refine zG ?_;obtain⟨y8,hy9,h⟩:=zV h;refine xO [(100,100)] [] [100] (zP hy9) call37 ?_;refine zE ?_;refine zx [] [100,1100] ?_;refine zQ ?_;refine wX ?_;cases h;exact yl [2] [100,1100]
  ·refine JP ?_;refine wX ?_;cases h;exact yl [2] [100,1100]
theorem yi{most1 b_2 at_3 bad_4 r0}(h:(zj most1 b_2 at_3 bad_4).wp (·=r0)):PObj prog 36 [.ref 100 0,zC .u64 most1] [(100,.cells 88 [zW (eK .u8) b_2,zC .i64 at_3,zC .i64 bad_4])] [100] (zC .u64 r0.1) (fun _:Unit=>[(100,.cells 88 [zW (eK .u8) r0.2.1,zC .i64 r0.2.2.1,zC .i64 r0.2.2.2])]):=by
 refine yY [0,1] func36 ntmps36 ?_;intro ctx hK pv;refine ze ?_;obtain⟨y5,hy6,h⟩:=zV h;refine xO [(100,100)] [] [100] (zS hy6) call35 ?_;refine zG ?_;refine zx [0,1,5] [100,1100] ?_;refine zK ?_;refine zD h (fun h=>?_) fun h=>?_
 ·refine zQ ?_;obtain⟨y8,hy9,h⟩:=zV h;refine xO [(100,100)] [] [100] (zP hy9) call37 ?_;refine zE ?_;refine zx [] [100,1100] ?_;refine zQ ?_;refine wX ?_;cases h;exact yl [4] [100,1100]
 ·refine zY ?_;refine wX ?_;cases h;exact yl [4] [100,1100]
theorem xM{b_1 at_2 bad_3 r0}(h:(zq b_1 at_2 bad_3).wp (·=r0)):PObj prog 38 [.ref 100 0] [(100,.cells 88 [zW (eK .u8) b_1,zC .i64 at_2,zC .i64 bad_3])] [100] (zC .u8 r0.1) (fun _:Unit=>[(100,.cells 88 [zW (eK .u8) r0.2.1,zC .i64 r0.2.2.1,zC .i64 r0.2.2.2])]):=by
 refine yY [0] func38 ntmps38 ?_;intro ctx hK pv;refine vu ?_;refine zD h (fun h=>?_) fun h=>?_
 ·refine zG ?_;refine wX ?_;cases h;exact yl [2] [100,1100]
 ·refine zG ?_;refine woa ?_;refine qs (fun _ U W=>lM (enc:=(eK .u8)) (L:=b_1) underlying34 U) ?_;refine yW ?_;refine zD h (fun h=>?_) fun h=>?_
  ·refine zQ ?_;obtain⟨y6,hy7,h⟩:=zV h;refine xO [(100,100)] [] [100] (zP hy7) call37 ?_;refine zE ?_;refine zx [] [100,1100] ?_;refine zQ ?_;refine wX ?_;cases h;exact yl [2] [100,1100]
  ·refine ze ?_;refine xd [0,20,23] [100,1100] ?_;refine zl ?_;refine yBa ?_;obtain⟨x8,hy9,h⟩:=yO h;refine yz hy9 ?_;refine yC ?_;refine wX ?_;cases h;exact yl [2] [100,1100]
theorem JT{b_1 at_2 bad_3 r0}(h:(Wg b_1 at_2 bad_3).wp (·=r0)):PObj prog 39 [.ref 100 0] [(100,.cells 88 [zW (eK .u8) b_1,zC .i64 at_2,zC .i64 bad_3])] [100] (zW PT.e r0.1) (fun _:Unit=>[(100,.cells 88 [zW (eK .u8) r0.2.1,zC .i64 r0.2.2.1,zC .i64 r0.2.2.2])]):=by
 refine yY [0] func39 ntmps39 ?_;intro ctx hK pv;refine zE ?_;refine ws (aR 99 2 rfl) ?_;refine zQ ?_;refine ws (aR 99 2 rfl) ?_;refine zG ?_;obtain⟨y4,hy5,h⟩:=zV h;refine xO [(100,100)] [] [100] (zS hy5) call35 ?_;refine zG ?_;refine zx [0,3,4] [3,100,1100] ?_;refine zQ ?_;refine yF (zO h) 77 [0] [1100] (fun⟨out6,v7,v8,v9⟩=>([(3,.row 3 (out6.length))],[(3,.row 99 2 (List.map PT.e out6)),(100,.cells 88 [zW (eK .u8) v7,zC .i64 v8,zC .i64 v9])])) (fun h=>?_) ?_
 ·refine g5 ?_;refine zf h 77 [0,4] [1100] (fun⟨i121,out122,v123,v124,v125⟩=>([(3,.row 3 (out122.length)),(5,zC .u64 i121)],[(3,.row 99 2 (List.map PT.e out122)),(100,.cells 88 [zW (eK .u8) v123,zC .i64 v124,zC .i64 v125])])) ?_;rintro N ⟨i121,out122,v123,v124,v125⟩ _ h;refine zE ?_;refine yF (zO h) 77 [0,3,4,5] [3,100,1100] (fun v126=>([(21,.d (.v (.bool v126)))],[])) (fun h=>?_) ?_
  ·refine zK ?_;refine yK 15 h (fun h=>?_) fun h=>?_
   ·refine ze ?_;exact⟨(decide (v125=0)),(),h,sP⟩
   ·refine ze ?_;exact⟨false,(),h,sP⟩
  ·rintro v126 _ h;refine zD h (fun h=>?_) fun h=>?_
   ·refine zE ?_;refine yF (zO h) 77 [0,4,5] [1100] (fun⟨out129,v130,v131,v132⟩=>([(3,.row 3 (out129.length))],[(3,.row 99 2 (List.map PT.e out129)),(100,.cells 88 [zW (eK .u8) v130,zC .i64 v131,zC .i64 v132])])) (fun h=>?_) ?_
    ·refine zG ?_;obtain⟨y133,hy134,h⟩:=zV h;refine xO [(100,100)] [] [100] (yi hy134) call36 ?_;refine ws (LR.convInt underlying23 (by rw[underlying22];rfl) rfl rfl) ?_;refine ws (LR.build (ns:=[_,_]) qq rfl rfl rfl) ?_;refine zG ?_;refine zx [0,3,4,5,6] [3,6,100,1100] ?_;refine zE ?_;obtain⟨y135,hy136,h⟩:=zV h;refine xO [(100,100)] [] [100] (zS hy136) call35 ?_;refine zG ?_;refine zx [0,3,4,5,6,7] [3,6,100,1100] ?_;refine zQ ?_;refine yF (zO h) 77 [0,3,4,5,6] [3,1100] (fun⟨p137,v138,v139,v140⟩=>([],[(6,.cells 99 [zC .u16 (IntKind.u16.wrap y133.1),zW RN.e p137]),(100,.cells 88 [zW (eK .u8) v138,zC .i64 v139,zC .i64 v140])])) (fun h=>?_) ?_
     ·refine g5 ?_;refine zf h 77 [0,3,4,5,6,7] [3,1100] (fun⟨k164,p165,v166,v167,v168⟩=>([(8,zC .u64 k164)],[(6,.cells 99 [zC .u16 (IntKind.u16.wrap y133.1),zW RN.e p165]),(100,.cells 88 [zW (eK .u8) v166,zC .i64 v167,zC .i64 v168])])) ?_;rintro N ⟨k164,p165,v166,v167,v168⟩ _ h;refine zE ?_;refine yF (zO h) 77 [0,3,4,5,6,7,8] [3,6,100,1100] (fun v169=>([(39,.d (.v (.bool v169)))],[])) (fun h=>?_) ?_
      ·refine zK ?_;refine yK 33 h (fun h=>?_) fun h=>?_
       ·refine ze ?_;exact⟨(decide (v168=0)),(),h,sP⟩
       ·refine ze ?_;exact⟨false,(),h,sP⟩
      ·rintro v169 _ h;refine zD h (fun h=>?_) fun h=>?_
       ·refine zY ?_;obtain⟨y172,hy173,h⟩:=zV h;refine xO [(100,100)] [] [100] (zS hy173) call35 ?_;refine zE ?_;refine zx [0,3,4,5,6,7,8,9] [3,6,100,1100] ?_;refine zG ?_;obtain⟨hy174,h⟩:=zy h;refine ws (LR.appT (enc:=RN.e) (L:=([]:List RN)) (R:=p165) [44] ZS underlying97 rfl vD rfl (Src.slT (enc:=RN.e) (R:=p165) rfl (fun _=>rfl)) (fun _=>rfl) hy174 rfl rfl) ?_;refine zE ?_;obtain⟨y175,hy176,h⟩:=zV h;refine xO [(100,100)] [] [100] (zS hy176) call35<|ws (LR.build (ns:=[_,_]) z8a rfl rfl rfl)<|ws (LR.buildSliceD [.tmp 51] ZS rfl rfl (.cons rfl rfl rfl<|.nil) (by decide) (by decide)) ?_;obtain⟨hy177,h⟩:=zy h;refine ws (LR.appT (enc:=RN.e) (L:=(([]:List RN)++p165)) (R:=[(⟨y172.1,y175.1⟩:RN)]) [47] ZS underlying97 rfl rfl rfl (Src.slT (enc:=RN.e) (R:=[(⟨y172.1,y175.1⟩:RN)]) rfl (fun _=>rfl)) (fun _=>rfl) hy177 rfl rfl) ?_;refine g5 ?_;refine PWl.frz [53] hK (.cons rfl<|.nil) rfl vD ?_;refine zE ?_;refine zx [0,3,4,5,6,7,8] [3,6,100,1100] ?_;refine zK ?_;exact⟨((IntKind.u64.wrap (k164+1)),((([]:List RN)++p165)++[(⟨y172.1,y175.1⟩:RN)]),y175.2.1,y175.2.2.1,y175.2.2.2),(),h,sP⟩
       ·refine wZ ?_;exact⟨(p165,v166,v167,v168),(),h,sP⟩
     ·rintro⟨p137,v138,v139,v140⟩ _ h;refine zQ ?_;refine ws (LR.buildSliceD [.tmp 56] WE rfl rfl (.cons rfl rfl rfl<|.nil) (by decide) (by decide)) ?_;obtain⟨hy178,h⟩:=zy h;refine ws (LR.appT (enc:=PT.e) (L:=out122) (R:=[(⟨(IntKind.u16.wrap y133.1),p137⟩:PT)]) [3,55] WE underlying28 rfl rfl rfl (Src.slT (enc:=PT.e) (R:=[(⟨(IntKind.u16.wrap y133.1),p137⟩:PT)]) rfl (fun _=>rfl)) (fun _=>rfl) hy178 rfl rfl) ?_;refine zE ?_;exact⟨((out122++[(⟨(IntKind.u16.wrap y133.1),p137⟩:PT)]),v138,v139,v140),(),h,zca⟩
    ·rintro⟨out129,v130,v131,v132⟩ _ h;refine zK ?_;exact⟨((IntKind.u64.wrap (i121+1)),out129,v130,v131,v132),(),h,sP⟩
   ·refine wZ ?_;exact⟨(out122,v123,v124,v125),(),h,sP⟩
 ·rintro⟨out6,v7,v8,v9⟩ _ h;refine zE ?_;refine yF (zO h) 77 [0] [100,1100] (fun⟨out179,v180⟩=>([(3,zW PT.e out179),(68,.d (.v (.bool v180)))],[])) (fun h=>?_) ?_
  ·refine ze ?_;refine yK 64 h (fun h=>?_) fun h=>?_
   ·refine g5 ?_;obtain⟨v182,hy183,h⟩:=zV h;refine PWl.frz [3,65] hK (.cons rfl<|.cons rfl<|.nil) rfl (by simp) ?_;refine wt (cN (UQ hy183) rfl call63 rfl rfl rfl rfl) ?_;refine zQ ?_;exact⟨(out6,(!v182)),(),h,sP⟩
   ·refine zK ?_;exact⟨(out6,false),(),h,Sub.trans (Sub.frz [3] hK rfl (by simp) (AllRow.get (.cons rfl<|.nil)))<|sP⟩
  ·rintro⟨out179,v180⟩ _ h;refine yF (zO h) 77 [0,3] [1100] (fun⟨v184,v185,v186⟩=>([],[(100,.cells 88 [zW (eK .u8) v184,zC .i64 v185,zC .i64 v186])])) (fun h=>?_) ?_
   ·refine zD h (fun h=>?_) fun h=>?_
    ·refine zE ?_;obtain⟨y188,hy189,h⟩:=zV h;refine xO [(100,100)] [] [100] (zP hy189) call37 ?_;refine g5 ?_;exact⟨(y188.1,y188.2.1,y188.2.2),(),h,sP⟩
    ·refine g5 ?_;exact⟨(v7,v8,v9),(),h,sP⟩
   ·rintro⟨v184,v185,v186⟩ _ h;refine ym ?_;refine zD h (fun h=>?_) fun h=>?_
    ·refine zE ?_;refine ws (aR 99 2 rfl) ?_;refine g5 ?_;refine wX ?_;cases h;exact EndsO.mk () (.inr rfl) (Sub.trans (Sub.frz [2] hK rfl vD (AllRow.get (.cons rfl<|.nil)))<|vJ [2] [100,1100]) (.cons (.tmp rfl)<|.nil) rfl rfl
    ·refine zY ?_;refine wX ?_;cases h;exact yl [2] [100,1100]
theorem JU{b_1 at_2 bad_3 r0}(h:(XG b_1 at_2 bad_3).wp (·=r0)):PObj prog 116 [.ref 100 0] [(100,.cells 88 [zW (eK .u8) b_1,zC .i64 at_2,zC .i64 bad_3])] [100] (.agg (List.map .d (DT.e r0.1))) (fun _:Unit=>[(100,.cells 88 [zW (eK .u8) r0.2.1,zC .i64 r0.2.2.1,zC .i64 r0.2.2.2])]):=by
 refine yY [0] func116 ntmps116 ?_;intro ctx hK pv;refine ze ?_;obtain⟨y4,hy5,h⟩:=zV h;refine xO [(100,100)] [] [100] (yi hy5) call36 ?_;refine zQ ?_;refine zx [0,2,3] [2,100,1100] ?_;refine zE ?_;refine ws (LR.convInt underlying23 (by rw[underlying22];rfl) rfl rfl) ?_;refine g5 ?_;obtain⟨y6,hy7,h⟩:=zV h;refine xO [(100,100)] [] [100] (zS hy7) call35<|ws (LR.build (ns:=[_,_]) um rfl rfl rfl) ?_;refine zK ?_;refine zx [0,2,4] [2,4,100,1100] ?_;refine yF (zO h) 31 [0,2,4] [2,4,100,1100] (fun v8=>([(21,.d (.v (.bool v8)))],[])) (fun h=>?_) ?_
 ·refine ze ?_;refine yK 17 h (fun h=>?_) fun h=>?_
  ·refine g5 ?_;obtain⟨v10,hy11,h⟩:=zV h;refine wt (cN (YQ hy11) rfl call140 rfl rfl rfl rfl) ?_;refine zQ ?_;exact⟨(!v10),(),h,sP⟩
  ·refine zK ?_;exact⟨false,(),h,sP⟩
 ·rintro v8 _ h;refine yF (zO h) 31 [0,2,4] [2,4,1100] (fun⟨v12,v13,v14⟩=>([],[(100,.cells 88 [zW (eK .u8) v12,zC .i64 v13,zC .i64 v14])])) (fun h=>?_) ?_
  ·refine zD h (fun h=>?_) fun h=>?_
   ·refine zE ?_;obtain⟨y16,hy17,h⟩:=zV h;refine xO [(100,100)] [] [100] (zP hy17) call37 ?_;refine g5 ?_;exact⟨(y16.1,y16.2.1,y16.2.2),(),h,sP⟩
   ·refine g5 ?_;exact⟨(y6.2.1,y6.2.2.1,y6.2.2.2),(),h,sP⟩
  ·rintro⟨v12,v13,v14⟩ _ h;refine ym ?_;refine zD h (fun h=>?_) fun h=>?_
   ·refine zE ?_;refine ws (LR.build (ns:=[_,_]) um rfl rfl rfl) ?_;refine zE ?_;refine wX ?_;cases h;exact EndsO.mkX (ex:=[(2,_)]) () (.inr rfl) (vJ [2] [100,1100,2]) (.cons (.agg isAgg101 sizeOf101 rfl rfl rfl)<|.nil) rfl rfl
   ·refine zY ?_;refine wX ?_;cases h;exact EndsO.mkX (ex:=[(2,_)]) () (.inr rfl) (vJ [2] [100,1100,2]) (.cons (.agg isAgg101 sizeOf101 rfl rfl rfl)<|.nil) rfl rfl
theorem ZO{most1 b_2 at_3 bad_4 r0}(h:(yZ most1 b_2 at_3 bad_4).wp (·=r0)):PObj prog 117 [.ref 100 0,zC .i64 most1] [(100,.cells 88 [zW (eK .u8) b_2,zC .i64 at_3,zC .i64 bad_4])] [100] (.d (.v (.string r0.1))) (fun _:Unit=>[(100,.cells 88 [zW (eK .u8) r0.2.1,zC .i64 r0.2.2.1,zC .i64 r0.2.2.2])]):=by
 refine yY [0,1] func117 ntmps117 ?_;intro ctx hK pv;refine ze ?_;obtain⟨y5,hy6,h⟩:=zV h;refine xO [(100,100)] [] [100] (zS hy6) call35 ?_;refine zG ?_;refine zx [0,1,5] [100,1100] ?_;refine zG ?_;refine yF (zO h) 66 [0,5] [100,1100] (fun most7=>([(1,zC .i64 most7)],[])) (fun h=>?_) ?_
 ·refine zD h (fun h=>?_) fun h=>?_
  ·refine zQ ?_;exact⟨0,(),h,sP⟩
  ·refine g5 ?_;exact⟨most1,(),h,sP⟩
 ·rintro most7 _ h;refine zK ?_;refine ws (LR.convInt underlying22 (by rw[underlying3];rfl) rfl rfl) ?_;refine zE ?_;refine yF (zO h) 66 [0,5] [1100] (fun⟨v9,v10,v11⟩=>([],[(100,.cells 88 [zW (eK .u8) v9,zC .i64 v10,zC .i64 v11])])) (fun h=>?_) ?_
  ·refine zD h (fun h=>?_) fun h=>?_
   ·refine zE ?_;obtain⟨y13,hy14,h⟩:=zV h;refine xO [(100,100)] [] [100] (zP hy14) call37 ?_;refine g5 ?_;exact⟨(y13.1,y13.2.1,y13.2.2),(),h,sP⟩
   ·refine g5 ?_;exact⟨(y5.2.1,y5.2.2.1,y5.2.2.2),(),h,sP⟩
  ·rintro⟨v9,v10,v11⟩ _ h;refine zE ?_;refine yF (zO h) 66 [0,5] [100,1100] (fun v15=>([(36,.d (.v (.bool v15)))],[])) (fun h=>?_) ?_
   ·refine g5 ?_;refine Ys ?_;refine vn 22 h (fun h=>?_) fun h=>?_
    ·refine WJ ?_;refine qt (fun _ U W=>lM (enc:=(eK .u8)) (L:=v9) underlying34 U) ?_;refine WJ ?_;refine qt (fun _ U W=>LR.convInt underlying22 (by rw[underlying3];rfl) U rfl) ?_;refine yC ?_;exact⟨(decide (((IntKind.u64.wrap ((IntKind.i64.wrap ((v9.length:Int) - v10))))) < y5.1)),(),h,sP⟩
    ·refine v7a ?_;exact⟨false,(),h,sP⟩
   ·rintro v15 _ h;refine yF (zO h) 66 [0,5] [1100] (fun⟨v17,v18,v19⟩=>([],[(100,.cells 88 [zW (eK .u8) v17,zC .i64 v18,zC .i64 v19])])) (fun h=>?_) ?_
    ·refine zD h (fun h=>?_) fun h=>?_
     ·refine zE ?_;obtain⟨y21,hy22,h⟩:=zV h;refine xO [(100,100)] [] [100] (zP hy22) call37 ?_;refine g5 ?_;exact⟨(y21.1,y21.2.1,y21.2.2),(),h,sP⟩
     ·refine g5 ?_;exact⟨(v9,v10,v11),(),h,sP⟩
    ·rintro⟨v17,v18,v19⟩ _ h;refine ym ?_;refine zD h (fun h=>?_) fun h=>?_
     ·refine zG ?_;refine wX ?_;cases h;exact yl [4] [100,1100]
     ·refine JP ?_;refine ws (LR.convInt underlying3 (by rw[underlying22];rfl) rfl rfl) ?_;refine ze ?_;refine yBa ?_;obtain⟨hy24,h⟩:=zy h;refine qs (fun _ U W=>LR.cutT (enc:=(eK .u8)) (L:=v17) underlying34 sizeOf5 U (fun _=>rfl) U U hy24) ?_;refine yC ?_;refine wX ?_;cases h;exact yl [4] [100,1100]
theorem yaa{most1 b_2 at_3 bad_4 r0}(h:(XH most1 b_2 at_3 bad_4).wp (·=r0)):PObj prog 118 [.ref 100 0,zC .i64 most1] [(100,.cells 88 [zW (eK .u8) b_2,zC .i64 at_3,zC .i64 bad_4])] [100] (zW DT.e r0.1) (fun _:Unit=>[(100,.cells 88 [zW (eK .u8) r0.2.1,zC .i64 r0.2.2.1,zC .i64 r0.2.2.2])]):=by
 refine yY [0,1] func118 ntmps118 ?_;intro ctx hK pv;refine zE ?_;refine ws (aR 101 2 rfl) ?_;refine ze ?_;refine yF (zO h) 67 [0] [100,1100] (fun most5=>([(1,zC .i64 most5)],[])) (fun h=>?_) ?_
 ·refine zD h (fun h=>?_) fun h=>?_
  ·refine zQ ?_;exact⟨0,(),h,sP⟩
  ·refine g5 ?_;exact⟨most1,(),h,sP⟩
 ·rintro most5 _ h;refine zQ ?_;obtain⟨y7,hy8,h⟩:=zV h;refine xO [(100,100)] [] [100] (zS hy8) call35 ?_;refine zG ?_;refine zx [0,1,5] [100,1100] ?_;refine zQ ?_;refine ws (LR.convInt underlying22 (by rw[underlying3];rfl) rfl rfl) ?_;refine zE ?_;refine yF (zO h) 67 [0,5] [1100] (fun⟨v9,v10,v11⟩=>([],[(100,.cells 88 [zW (eK .u8) v9,zC .i64 v10,zC .i64 v11])])) (fun h=>?_) ?_
  ·refine zD h (fun h=>?_) fun h=>?_
   ·refine zE ?_;obtain⟨y13,hy14,h⟩:=zV h;refine xO [(100,100)] [] [100] (zP hy14) call37 ?_;refine g5 ?_;exact⟨(y13.1,y13.2.1,y13.2.2),(),h,sP⟩
   ·refine g5 ?_;exact⟨(y7.2.1,y7.2.2.1,y7.2.2.2),(),h,sP⟩
  ·rintro⟨v9,v10,v11⟩ _ h;refine zE ?_;refine ws (aR 101 2 rfl) ?_;refine zY ?_;refine yF (zO h) 67 [0] [1100] (fun⟨out15,v16,v17,v18⟩=>([(6,.row 6 (out15.length))],[(6,.row 101 2 (List.map DT.e out15)),(100,.cells 88 [zW (eK .u8) v16,zC .i64 v17,zC .i64 v18])])) (fun h=>?_) ?_
   ·refine g5 ?_;refine zf h 67 [0,5] [1100] (fun⟨i62,out63,v64,v65,v66⟩=>([(6,.row 6 (out63.length)),(7,zC .u64 i62)],[(6,.row 101 2 (List.map DT.e out63)),(100,.cells 88 [zW (eK .u8) v64,zC .i64 v65,zC .i64 v66])])) ?_;rintro N ⟨i62,out63,v64,v65,v66⟩ _ h;refine zE ?_;refine yF (zO h) 67 [0,5,6,7] [6,100,1100] (fun v67=>([(29,.d (.v (.bool v67)))],[])) (fun h=>?_) ?_
    ·refine zK ?_;refine yK 23 h (fun h=>?_) fun h=>?_
     ·refine ze ?_;exact⟨(decide (v66=0)),(),h,sP⟩
     ·refine ze ?_;exact⟨false,(),h,sP⟩
    ·rintro v67 _ h;refine zD h (fun h=>?_) fun h=>?_
     ·refine zY ?_;obtain⟨y70,hy71,h⟩:=zV h;refine xO [(100,100)] [] [100] (JU hy71) call116 ?_;refine zG ?_;refine zx [0,5,6,7,8] [6,8,100,1100] ?_;refine zl ?_;refine yF (zO h) 67 [0,5,6,7,8] [6,8,100,1100] (fun v72=>([(54,.d (.v (.bool v72)))],[])) (fun h=>?_) ?_
      ·refine g5 ?_;refine Ys ?_;refine vn 42 h (fun h=>?_) fun h=>?_
       ·refine xX ?_;refine vn 46 h (fun h=>?_) fun h=>?_
        ·refine yW ?_;obtain⟨x75,hy76,h⟩:=yO h;refine qt (fun _ U W=>LR.idxRowT (L:=out63) (y:=x75) underlying102 sizeOf101 U rfl U hy76) ?_;refine qt (fun _ U W=>LR.loadRpT (enc:=DT.e) (L:=out63) (y:=x75) isAgg101 sizeOf101 U (W rfl) hy76.2) ?_;refine h5 ?_;obtain⟨v77,hy78,h⟩:=zV h;refine qt (fun _ U W=>cN (Zr hy78) U call80 (Ya (fun a b=>U a b) rfl rfl) rfl rfl rfl) ?_;refine yC ?_;exact⟨(decide (0<=v77)),(),h,sP⟩
        ·refine yBa ?_;exact⟨false,(),h,sP⟩
       ·refine JR ?_;exact⟨false,(),h,sP⟩
      ·rintro v72 _ h;refine yF (zO h) 67 [0,5,6,7,8] [6,8,1100] (fun⟨v79,v80,v81⟩=>([],[(100,.cells 88 [zW (eK .u8) v79,zC .i64 v80,zC .i64 v81])])) (fun h=>?_) ?_
       ·refine zD h (fun h=>?_) fun h=>?_
        ·refine zE ?_;obtain⟨y83,hy84,h⟩:=zV h;refine xO [(100,100)] [] [100] (zP hy84) call37 ?_;refine g5 ?_;exact⟨(y83.1,y83.2.1,y83.2.2),(),h,sP⟩
        ·refine g5 ?_;exact⟨(y70.2.1,y70.2.2.1,y70.2.2.2),(),h,sP⟩
       ·rintro⟨v79,v80,v81⟩ _ h;refine zQ ?_;refine ws (LR.buildSliceD [.tmp 58] wn rfl rfl (.cons rfl rfl rfl<|.nil) (by decide) (by decide)) ?_;obtain⟨hy85,h⟩:=zy h;refine ws (LR.appT (enc:=DT.e) (L:=out63) (R:=[y70.1]) [6,57] wn underlying102 rfl rfl rfl (Src.slT (enc:=DT.e) (R:=[y70.1]) rfl (fun _=>rfl)) (fun _=>rfl) hy85 rfl rfl) ?_;refine ze ?_;exact⟨((IntKind.u64.wrap (i62+1)),(out63++[y70.1]),v79,v80,v81),(),h,sP⟩
     ·refine wZ ?_;exact⟨(out63,v64,v65,v66),(),h,sP⟩
   ·rintro⟨out15,v16,v17,v18⟩ _ h;refine ym ?_;refine zD h (fun h=>?_) fun h=>?_
    ·refine zE ?_;refine ws (aR 101 2 rfl) ?_;refine g5 ?_;refine wX ?_;cases h;exact EndsO.mk () (.inr rfl) (Sub.trans (Sub.frz [4] hK rfl vD (AllRow.get (.cons rfl<|.nil)))<|vJ [4] [100,1100]) (.cons (.tmp rfl)<|.nil) rfl rfl
    ·refine zY ?_;refine wX ?_;cases h;exact EndsO.mk () (.inr rfl) (Sub.trans (Sub.frz [4,6,66] hK rfl (by simp) (AllRow.get (.cons rfl<|.cons rfl<|.cons rfl<|.nil)))<|vJ [4] [100,1100]) (.cons (.tmp rfl)<|.nil) rfl rfl
theorem xia{b_1 at_2 bad_3 r0}(h:(Uy b_1 at_2 bad_3).wp (·=r0)):PObj prog 79 [.ref 100 0] [(100,.cells 88 [zW (eK .u8) b_1,zC .i64 at_2,zC .i64 bad_3])] [100] (.agg (List.map .d (EV.e r0.1))) (fun _:Unit=>[(100,.cells 88 [zW (eK .u8) r0.2.1,zC .i64 r0.2.2.1,zC .i64 r0.2.2.2])]):=by
 refine yY [0] func79 ntmps79 ?_;intro ctx hK pv;refine ze ?_;obtain⟨y4,hy5,h⟩:=zV h;refine xO [(100,100)] [] [100] (JU hy5) call116<|ws (LR.build (ns:=[_,_,_,_,_,_,_]) Jj rfl rfl rfl) ?_;refine zG ?_;refine zx [0,2,3] [2,3,100,1100] ?_;refine zE ?_;obtain⟨y6,hy7,h⟩:=zV h;refine xO [(100,100)] [] [100] (xM hy7) call38 ?_;refine zG ?_;refine zx [0,2,3] [2,3,100,1100] ?_;refine zE ?_;obtain⟨y8,hy9,h⟩:=zV h;refine xO [(100,100)] [] [100] (zS hy9) call35 ?_;refine zG ?_;refine zx [0,2,3] [2,3,100,1100] ?_;refine zE ?_;obtain⟨y10,hy11,h⟩:=zV h;refine xO [(100,100)] [] [100] (xM hy11) call38 ?_;refine zG ?_;refine zx [0,2,3] [2,3,100,1100] ?_;refine zE ?_;obtain⟨y12,hy13,h⟩:=zV h;refine xO [(100,100)] [] [100] (ZO hy13) call117 ?_;refine zG ?_;refine zx [0,2,3] [2,3,100,1100] ?_;refine zE ?_;obtain⟨y14,hy15,h⟩:=zV h;refine xO [(100,100)] [] [100] (yaa hy15) call118 ?_;refine zK ?_;refine zx [0,2,3] [2,3,100,1100] ?_;refine yF (zO h) 41 [0,2,3] [2,3,100,1100] (fun v16=>([(31,.d (.v (.bool v16)))],[])) (fun h=>?_) ?_
 ·refine ze ?_;refine yK 27 h (fun h=>?_) fun h=>?_
  ·refine g5 ?_;obtain⟨v18,hy19,h⟩:=zV h;refine wt (cN (QL hy19) rfl call101 rfl rfl rfl rfl) ?_;refine zQ ?_;exact⟨(!v18),(),h,sP⟩
  ·refine zK ?_;exact⟨false,(),h,sP⟩
 ·rintro v16 _ h;refine yF (zO h) 41 [0,2,3] [2,3,1100] (fun⟨v20,v21,v22⟩=>([],[(100,.cells 88 [zW (eK .u8) v20,zC .i64 v21,zC .i64 v22])])) (fun h=>?_) ?_
  ·refine zD h (fun h=>?_) fun h=>?_
   ·refine zE ?_;obtain⟨y24,hy25,h⟩:=zV h;refine xO [(100,100)] [] [100] (zP hy25) call37 ?_;refine g5 ?_;exact⟨(y24.1,y24.2.1,y24.2.2),(),h,sP⟩
   ·refine g5 ?_;exact⟨(y14.2.1,y14.2.2.1,y14.2.2.2),(),h,sP⟩
  ·rintro⟨v20,v21,v22⟩ _ h;refine ym ?_;refine zD h (fun h=>?_) fun h=>?_
   ·refine zE ?_;refine ws (LR.build (ns:=[_,_,_,_,_,_,_]) Jj rfl rfl rfl) ?_;refine zE ?_;refine wX ?_;cases h;exact EndsO.mkX (ex:=[(2,_)]) () (.inr rfl) (vJ [2] [100,1100,2]) (.cons (.agg isAgg104 sizeOf104 rfl rfl rfl)<|.nil) rfl rfl
   ·refine zY ?_;refine wX ?_;cases h;exact EndsO.mkX (ex:=[(2,_)]) () (.inr rfl) (vJ [2] [100,1100,2]) (.cons (.agg isAgg104 sizeOf104 rfl rfl rfl)<|.nil) rfl rfl
theorem QP{most1 b_2 at_3 bad_4 r0}(h:(ZA most1 b_2 at_3 bad_4).wp (·=r0)):PObj prog 40 [.ref 100 0,zC .i64 most1] [(100,.cells 88 [zW (eK .u8) b_2,zC .i64 at_3,zC .i64 bad_4])] [100] (zW EV.e r0.1) (fun _:Unit=>[(100,.cells 88 [zW (eK .u8) r0.2.1,zC .i64 r0.2.2.1,zC .i64 r0.2.2.2])]):=by
 refine yY [0,1] func40 ntmps40 ?_;intro ctx hK pv;refine zE ?_;refine ws (aR 104 7 rfl) ?_;refine ze ?_;refine yF (zO h) 69 [0] [100,1100] (fun most5=>([(1,zC .i64 most5)],[])) (fun h=>?_) ?_
 ·refine zD h (fun h=>?_) fun h=>?_
  ·refine zQ ?_;exact⟨0,(),h,sP⟩
  ·refine g5 ?_;exact⟨most1,(),h,sP⟩
 ·rintro most5 _ h;refine zQ ?_;obtain⟨y7,hy8,h⟩:=zV h;refine xO [(100,100)] [] [100] (zS hy8) call35 ?_;refine zG ?_;refine zx [0,1,5] [100,1100] ?_;refine zQ ?_;refine ws (LR.convInt underlying22 (by rw[underlying3];rfl) rfl rfl) ?_;refine zE ?_;refine yF (zO h) 69 [0,5] [1100] (fun⟨v9,v10,v11⟩=>([],[(100,.cells 88 [zW (eK .u8) v9,zC .i64 v10,zC .i64 v11])])) (fun h=>?_) ?_
  ·refine zD h (fun h=>?_) fun h=>?_
   ·refine zE ?_;obtain⟨y13,hy14,h⟩:=zV h;refine xO [(100,100)] [] [100] (zP hy14) call37 ?_;refine g5 ?_;exact⟨(y13.1,y13.2.1,y13.2.2),(),h,sP⟩
   ·refine g5 ?_;exact⟨(y7.2.1,y7.2.2.1,y7.2.2.2),(),h,sP⟩
  ·rintro⟨v9,v10,v11⟩ _ h;refine zE ?_;refine ws (aR 104 7 rfl) ?_;refine zY ?_;refine yF (zO h) 69 [0] [1100] (fun⟨out15,v16,v17,v18⟩=>([(6,.row 6 (out15.length))],[(6,.row 104 7 (List.map EV.e out15)),(100,.cells 88 [zW (eK .u8) v16,zC .i64 v17,zC .i64 v18])])) (fun h=>?_) ?_
   ·refine g5 ?_;refine zf h 69 [0,5] [1100] (fun⟨i62,out63,v64,v65,v66⟩=>([(6,.row 6 (out63.length)),(7,zC .u64 i62)],[(6,.row 104 7 (List.map EV.e out63)),(100,.cells 88 [zW (eK .u8) v64,zC .i64 v65,zC .i64 v66])])) ?_;rintro N ⟨i62,out63,v64,v65,v66⟩ _ h;refine zE ?_;refine yF (zO h) 69 [0,5,6,7] [6,100,1100] (fun v67=>([(29,.d (.v (.bool v67)))],[])) (fun h=>?_) ?_
    ·refine zK ?_;refine yK 23 h (fun h=>?_) fun h=>?_
     ·refine ze ?_;exact⟨(decide (v66=0)),(),h,sP⟩
     ·refine ze ?_;exact⟨false,(),h,sP⟩
    ·rintro v67 _ h;refine zD h (fun h=>?_) fun h=>?_
     ·refine zY ?_;obtain⟨y70,hy71,h⟩:=zV h;refine xO [(100,100)] [] [100] (xia hy71) call79 ?_;refine zG ?_;refine zx [0,5,6,7,8] [6,8,100,1100] ?_;refine zl ?_;refine yF (zO h) 69 [0,5,6,7,8] [6,8,100,1100] (fun v72=>([(56,.d (.v (.bool v72)))],[])) (fun h=>?_) ?_
      ·refine g5 ?_;refine Ys ?_;refine vn 42 h (fun h=>?_) fun h=>?_
       ·refine xX ?_;refine vn 46 h (fun h=>?_) fun h=>?_
        ·refine yW ?_;obtain⟨x75,hy76,h⟩:=yO h;refine qt (fun _ U W=>LR.idxRowT (L:=out63) (y:=x75) underlying29 sizeOf104 U rfl U hy76) ?_;refine h5 ?_;refine qt (fun _ U W=>LR.loadRpPartT (enc:=EV.e) (L:=out63) (y:=x75) isAgg101 sizeOf101 U (W rfl) hy76.2 rfl rfl) ?_;refine yW ?_;obtain⟨v77,hy78,h⟩:=zV h;refine qt (fun _ U W=>cN (Zr hy78) U call80 (Ya (fun a b=>U a b) rfl rfl) rfl rfl rfl) ?_;refine yC ?_;exact⟨(decide (0<=v77)),(),h,sP⟩
        ·refine YOa ?_;exact⟨false,(),h,sP⟩
       ·refine v7a ?_;exact⟨false,(),h,sP⟩
      ·rintro v72 _ h;refine yF (zO h) 69 [0,5,6,7,8] [6,8,1100] (fun⟨v79,v80,v81⟩=>([],[(100,.cells 88 [zW (eK .u8) v79,zC .i64 v80,zC .i64 v81])])) (fun h=>?_) ?_
       ·refine zD h (fun h=>?_) fun h=>?_
        ·refine zE ?_;obtain⟨y83,hy84,h⟩:=zV h;refine xO [(100,100)] [] [100] (zP hy84) call37 ?_;refine g5 ?_;exact⟨(y83.1,y83.2.1,y83.2.2),(),h,sP⟩
        ·refine g5 ?_;exact⟨(y70.2.1,y70.2.2.1,y70.2.2.2),(),h,sP⟩
       ·rintro⟨v79,v80,v81⟩ _ h;refine zQ ?_;refine ws (LR.buildSliceD [.tmp 60] JO rfl rfl (.cons rfl rfl rfl<|.nil) (by decide) (by decide)) ?_;obtain⟨hy85,h⟩:=zy h;refine ws (LR.appT (enc:=EV.e) (L:=out63) (R:=[y70.1]) [6,59] JO underlying29 rfl rfl rfl (Src.slT (enc:=EV.e) (R:=[y70.1]) rfl (fun _=>rfl)) (fun _=>rfl) hy85 rfl rfl) ?_;refine ze ?_;exact⟨((IntKind.u64.wrap (i62+1)),(out63++[y70.1]),v79,v80,v81),(),h,sP⟩
     ·refine wZ ?_;exact⟨(out63,v64,v65,v66),(),h,sP⟩
   ·rintro⟨out15,v16,v17,v18⟩ _ h;refine ym ?_;refine zD h (fun h=>?_) fun h=>?_
    ·refine zE ?_;refine ws (aR 104 7 rfl) ?_;refine g5 ?_;refine wX ?_;cases h;exact EndsO.mk () (.inr rfl) (Sub.trans (Sub.frz [4] hK rfl vD (AllRow.get (.cons rfl<|.nil)))<|vJ [4] [100,1100]) (.cons (.tmp rfl)<|.nil) rfl rfl
    ·refine zY ?_;refine wX ?_;cases h;exact EndsO.mk () (.inr rfl) (Sub.trans (Sub.frz [4,6,68] hK rfl (by simp) (AllRow.get (.cons rfl<|.cons rfl<|.cons rfl<|.nil)))<|vJ [4] [100,1100]) (.cons (.tmp rfl)<|.nil) rfl rfl
theorem ZP{b_1 at_2 bad_3 r0}(h:(xh b_1 at_2 bad_3).wp (·=r0)):PObj prog 81 [.ref 100 0] [(100,.cells 88 [zW (eK .u8) b_1,zC .i64 at_2,zC .i64 bad_3])] [100] (zC .i64 r0.1) (fun _:Unit=>[(100,.cells 88 [zW (eK .u8) r0.2.1,zC .i64 r0.2.2.1,zC .i64 r0.2.2.2])]):=by
 refine yY [0] func81 ntmps81 ?_;intro ctx hK pv;refine vu ?_;refine zD h (fun h=>?_) fun h=>?_
 ·refine zG ?_;refine wX ?_;cases h;exact yl [2] [100,1100]
 ·refine zQ ?_;refine xX ?_;refine qs (fun _ U W=>lM (enc:=(eK .u8)) (L:=b_1) underlying34 U) ?_;refine zKa ?_;refine wX ?_;cases h;exact yl [2] [100,1100]
theorem Zk{b_1 at_2 bad_3 r0}(h:(ye b_1 at_2 bad_3).wp (·=r0)):PObj prog 41 [.ref 100 0] [(100,.cells 88 [zW (eK .u8) b_1,zC .i64 at_2,zC .i64 bad_3])] [100] (zC .i64 r0.1) (fun _:Unit=>[(100,.cells 88 [zW (eK .u8) r0.2.1,zC .i64 r0.2.2.1,zC .i64 r0.2.2.2])]):=by
 refine yY [0] func41 ntmps41 ?_;intro ctx hK pv;refine zl ?_;obtain⟨y4,hy5,h⟩:=zV h;refine xO [(100,100)] [] [100] (ZP hy5) call81 ?_;refine zE ?_;refine yF (zO h) 12 [0] [1100] (fun⟨v6,v7,v8⟩=>([],[(100,.cells 88 [zW (eK .u8) v6,zC .i64 v7,zC .i64 v8])])) (fun h=>?_) ?_
 ·refine zD h (fun h=>?_) fun h=>?_
  ·refine zx [0] [100,1100] ?_;refine zE ?_;obtain⟨y10,hy11,h⟩:=zV h;refine xO [(100,100)] [] [100] (zP hy11) call37 ?_;refine g5 ?_;exact⟨(y10.1,y10.2.1,y10.2.2),(),h,sP⟩
  ·refine g5 ?_;exact⟨(y4.2.1,y4.2.2.1,y4.2.2.2),(),h,sP⟩
 ·rintro⟨v6,v7,v8⟩ _ h;refine zl ?_;refine wX ?_;cases h;exact yl [2] [100,1100]
theorem ZSa{b1 r0}(h:(yHa b1).wp (·=r0)):PFun prog 12 [zW (eK .u8) b1] (.tup [.agg (List.map .d (THubState.e r0.1)),zC .i64 r0.2]):=by
 refine ya [0] func12 ntmps12 ?_;intro ctx hK;refine zl ?_;refine ws (LR.build (ns:=[_,_,_]) build88 rfl rfl rfl) ?_;refine zY ?_;obtain⟨y2,hy3,h⟩:=zV h;refine xO [(100,15)] [] [100] (zS hy3) call35<|ws (LR.build (ns:=[_,_,_,_,_,_,_]) UH rfl rfl rfl) ?_;refine zG ?_;refine zx [2,4,5] [2,5,15] ?_;refine zE ?_;obtain⟨y4,hy5,h⟩:=zV h;refine xO [(100,15)] [] [100] (yi hy5) call36 ?_;refine ws (LR.convInt underlying23 (by rw[underlying22];rfl) rfl rfl) ?_;refine zG ?_;refine zx [2,4,5] [2,5,15] ?_;refine zE ?_;obtain⟨y6,hy7,h⟩:=zV h;refine xO [(100,15)] [] [100] (zS hy7) call35 ?_;refine zG ?_;refine zx [2,4,5,6] [2,5,15] ?_;refine zG ?_;refine yF (zO h) 124 [2,4,5,6] [2,5] (fun⟨v8,v9,v10⟩=>([],[(15,.cells 88 [zW (eK .u8) v8,zC .i64 v9,zC .i64 v10])])) (fun h=>?_) ?_
 ·refine zD h (fun h=>?_) fun h=>?_
  ·refine zE ?_;obtain⟨y12,hy13,h⟩:=zV h;refine xO [(100,15)] [] [100] (zP hy13) call37 ?_;refine g5 ?_;exact⟨(y12.1,y12.2.1,y12.2.2),(),h,sP⟩
  ·refine g5 ?_;exact⟨(y6.2.1,y6.2.2.1,y6.2.2.2),(),h,sP⟩
 ·rintro⟨v8,v9,v10⟩ _ h;refine zK ?_;refine yF (zO h) 124 [2,4,5] [2] (fun⟨s14,v15,v16,v17⟩=>([],[(5,.cells 31 [zC .u64 y2.1,zC .u16 (IntKind.u16.wrap y4.1),zW TMember.e s14,zW (eK .u64) ([]:List Int),zW TRow.e ([]:List TRow),zW PT.e ([]:List PT),zW EV.e ([]:List EV)]),(15,.cells 88 [zW (eK .u8) v15,zC .i64 v16,zC .i64 v17])])) (fun h=>?_) ?_
  ·refine g5 ?_;refine zf h 124 [2,4,5,6] [2] (fun⟨i45,s46,v47,v48,v49⟩=>([(7,zC .u64 i45)],[(5,.cells 31 [zC .u64 y2.1,zC .u16 (IntKind.u16.wrap y4.1),zW TMember.e s46,zW (eK .u64) ([]:List Int),zW TRow.e ([]:List TRow),zW PT.e ([]:List PT),zW EV.e ([]:List EV)]),(15,.cells 88 [zW (eK .u8) v47,zC .i64 v48,zC .i64 v49])])) ?_;rintro N ⟨i45,s46,v47,v48,v49⟩ _ h;refine zE ?_;refine yF (zO h) 124 [2,4,5,6,7] [2,5,15] (fun v50=>([(38,.d (.v (.bool v50)))],[])) (fun h=>?_) ?_
   ·refine zK ?_;refine yK 32 h (fun h=>?_) fun h=>?_
    ·refine ze ?_;exact⟨(decide (v49=0)),(),h,sP⟩
    ·refine ze ?_;exact⟨false,(),h,sP⟩
   ·rintro v50 _ h;refine zD h (fun h=>?_) fun h=>?_
    ·refine zY ?_;obtain⟨y53,hy54,h⟩:=zV h;refine xO [(100,15)] [] [100] (yi hy54) call36 ?_;refine ws (LR.convInt underlying23 (by rw[underlying22];rfl) rfl rfl) ?_;refine ws (LR.build (ns:=[_,_,_]) wma rfl rfl rfl) ?_;refine zG ?_;refine zx [2,4,5,6,7,8] [2,5,8,15] ?_;refine zE ?_;obtain⟨y55,hy56,h⟩:=zV h;refine xO [(100,15)] [] [100] (xM hy56) call38 ?_;refine zG ?_;refine zx [2,4,5,6,7,8] [2,5,8,15] ?_;refine zE ?_;obtain⟨y57,hy58,h⟩:=zV h;refine xO [(100,15)] [] [100] (zS hy58) call35 ?_;refine zQ ?_;refine zx [2,4,5,6,7,8] [2,5,8,15] ?_;refine PWc.regionE [⟨[51],[51],[],[51],[],[51],[],[]⟩,yf [52] [5],⟨[53],[],[5],[],[],[],[],[]⟩,⟨[51,54],[51],[51],[],[(51,[51])],[51],[],[]⟩,⟨[55],[],[8],[],[],[],[],[]⟩,{ws:=[56]},⟨[51,54,57],[51],[51],[],[(51,[51,54])],[],[],[]⟩,yf [58] [5],⟨[],[5],[5],[],[],[],[],[]⟩] (by kernel_rfl) (by kernel_rfl) rfl ?_;refine PQe.stepN (fun _ U W hf=>LR.buildSlice [] JM rfl rfl (.nil) (by decide) (by decide) hf) rfl (.inl rfl) rfl ?_;refine yW ?_;obtain⟨hy59,h⟩:=zy h;refine PQe.stepA [51] (fun _ U W ha=>LR.appT (enc:=TMember.e) (L:=([]:List TMember)) (R:=s46) [51] JM underlying24 (U rfl rfl) vD (W rfl rfl) (Src.slT (enc:=TMember.e) (R:=s46) (U rfl rfl) (fun _=>rfl)) (fun _=>rfl) hy59 rfl ha) rfl (.inl rfl) rfl ?_;refine h5 ?_;refine kp (fun _ U W=>LR.buildSliceD [.tmp 55] JM rfl rfl (.cons U rfl rfl<|.nil) (by decide) (by decide)) ?_;obtain⟨hy60,h⟩:=zy h;refine PQe.stepA [51,54] (fun _ U W ha=>LR.appTD (enc:=TMember.e) (L:=(([]:List TMember)++s46)) (R:=[(⟨(IntKind.u16.wrap y53.1),y55.1,y57.1⟩:TMember)]) [51,54] hK JM underlying24 (U rfl rfl) rfl (W rfl rfl) (Src.slT (enc:=TMember.e) (R:=[(⟨(IntKind.u16.wrap y53.1),y55.1,y57.1⟩:TMember)]) (U rfl rfl) (fun _=>rfl)) (fun _=>rfl) hy60 rfl ha) rfl (.inl rfl) rfl ?_;refine h5 ?_;refine ks (fun _ U W=>sB (ns:=[_,_,_,_,_,_,_]) sizeOf24 U U rfl rfl (W rfl rfl) rfl rfl)<|PQe.nil ?_;refine zK ?_;exact⟨((IntKind.u64.wrap (i45+1)),((([]:List TMember)++s46)++[(⟨(IntKind.u16.wrap y53.1),y55.1,y57.1⟩:TMember)]),y57.2.1,y57.2.2.1,y57.2.2.2),(),h,sP⟩
    ·refine wZ ?_;exact⟨(s46,v47,v48,v49),(),h,sP⟩
  ·rintro⟨s14,v15,v16,v17⟩ _ h;refine zK ?_;refine yF (zO h) 124 [2,4,5] [2] (fun⟨s61,v62,v63,v64⟩=>([],[(5,.cells 31 [zC .u64 y2.1,zC .u16 (IntKind.u16.wrap y4.1),zW TMember.e s14,zW (eK .u64) s61,zW TRow.e ([]:List TRow),zW PT.e ([]:List PT),zW EV.e ([]:List EV)]),(15,.cells 88 [zW (eK .u8) v62,zC .i64 v63,zC .i64 v64])])) (fun h=>?_) ?_
   ·refine g5 ?_;refine zf h 124 [2,4,5] [2] (fun⟨i80,s81,v82,v83,v84⟩=>([(9,zC .i64 i80)],[(5,.cells 31 [zC .u64 y2.1,zC .u16 (IntKind.u16.wrap y4.1),zW TMember.e s14,zW (eK .u64) s81,zW TRow.e ([]:List TRow),zW PT.e ([]:List PT),zW EV.e ([]:List EV)]),(15,.cells 88 [zW (eK .u8) v82,zC .i64 v83,zC .i64 v84])])) ?_;rintro N ⟨i80,s81,v82,v83,v84⟩ _ h;refine zY ?_;refine zD h (fun h=>?_) fun h=>?_
    ·refine ze ?_;obtain⟨hy86,h⟩:=zy h;refine ws (LR.appT (enc:=(eK .u64)) (L:=([]:List Int)) (R:=s81) [63] XB underlying25 rfl vD rfl (Src.slT (enc:=(eK .u64)) (R:=s81) rfl (fun _=>rfl)) (fun _=>rfl) hy86 rfl rfl) ?_;refine g5 ?_;obtain⟨y87,hy88,h⟩:=zV h;refine xO [(100,15)] [] [100] (zS hy88) call35<|ws (LR.buildSliceD [.tmp 68] XB rfl rfl (.cons rfl rfl rfl<|.nil) (by decide) (by decide)) ?_;obtain⟨hy89,h⟩:=zy h;refine ws (LR.appT (enc:=(eK .u64)) (L:=(([]:List Int)++s81)) (R:=[y87.1]) [66] XB underlying25 rfl rfl rfl (Src.slT (enc:=(eK .u64)) (R:=[y87.1]) rfl (fun _=>rfl)) (fun _=>rfl) hy89 rfl rfl) ?_;refine g5 ?_;refine PWl.frz [70] hK (.cons rfl<|.nil) rfl vD ?_;refine zE ?_;refine zx [2,4,5,9] [2,5,15] ?_;refine zK ?_;exact⟨((IntKind.i64.wrap (i80+1)),((([]:List Int)++s81)++[y87.1]),y87.2.1,y87.2.2.1,y87.2.2.2),(),h,sP⟩
    ·refine wZ ?_;exact⟨(s81,v82,v83,v84),(),h,sP⟩
   ·rintro⟨s61,v62,v63,v64⟩ _ h;refine zK ?_;refine yF (zO h) 124 [2,4,5] [2] (fun⟨s90,v91,v92,v93⟩=>([],[(5,.cells 31 [zC .u64 y2.1,zC .u16 (IntKind.u16.wrap y4.1),zW TMember.e s14,zW (eK .u64) s61,zW TRow.e s90,zW PT.e ([]:List PT),zW EV.e ([]:List EV)]),(15,.cells 88 [zW (eK .u8) v91,zC .i64 v92,zC .i64 v93])])) (fun h=>?_) ?_
    ·refine g5 ?_;refine zf h 124 [2,4,5] [2] (fun⟨i113,s114,v115,v116,v117⟩=>([(10,zC .i64 i113)],[(5,.cells 31 [zC .u64 y2.1,zC .u16 (IntKind.u16.wrap y4.1),zW TMember.e s14,zW (eK .u64) s61,zW TRow.e s114,zW PT.e ([]:List PT),zW EV.e ([]:List EV)]),(15,.cells 88 [zW (eK .u8) v115,zC .i64 v116,zC .i64 v117])])) ?_;rintro N ⟨i113,s114,v115,v116,v117⟩ _ h;refine ym ?_;refine zD h (fun h=>?_) fun h=>?_
     ·refine zQ ?_;refine zx [2,4,5,10] [2,5,15] ?_;refine PWc.regionE [⟨[79],[79],[],[79],[],[79],[],[]⟩,yf [80] [5],⟨[81],[],[5],[],[],[],[],[]⟩,⟨[79,82],[79],[79],[],[(79,[79])],[79],[],[]⟩,yf [83] [5],⟨[84],[],[5],[],[],[],[],[]⟩,{ws:=[85]},{ws:=[86]},{ws:=[87]},{ws:=[88]},yf [89] [15],⟨[90],[15],[15],[],[],[],[],[]⟩,{ws:=[91]},{ws:=[92]},⟨[79,82,93],[79],[79],[],[(79,[79,82])],[],[],[]⟩,yf [94] [5],⟨[],[5],[5],[],[],[],[],[]⟩] (by kernel_rfl) (by kernel_rfl) rfl ?_;refine PQe.stepN (fun _ U W hf=>LR.buildSlice [] JN rfl rfl (.nil) (by decide) (by decide) hf) rfl (.inl rfl) rfl ?_;refine yW ?_;obtain⟨hy119,h⟩:=zy h;refine PQe.stepA [79] (fun _ U W ha=>LR.appT (enc:=TRow.e) (L:=([]:List TRow)) (R:=s114) [79] JN underlying26 (U rfl rfl) vD (W rfl rfl) (Src.slT (enc:=TRow.e) (R:=s114) (U rfl rfl) (fun _=>rfl)) (fun _=>rfl) hy119 rfl ha) rfl (.inl rfl) rfl ?_;refine yC ?_;obtain⟨x120,hy121,h⟩:=yO h;refine kp (fun _ U W=>iX (enc:=TMember.e) (L:=s14) (y:=x120) underlying24 sizeOf59 U U hy121 (fun _=>rfl)) ?_;refine yC ?_;obtain⟨y122,hy123,h⟩:=zV h;refine PQe.callObj [(100,15)] [] [100] (JT hy123) hK (fun _ U=>⟨U rfl rfl,Ya U rfl rfl⟩) call39 (by first | rfl | (simp;done) | (simp[PV.nilD,PV.ren,rn] <;> omega)) (.cons YMa<|.nil) rfl rfl rfl rfl (.inl rfl) rfl ?_;refine kp (fun _ U W=>LR.build (ns:=[_,_]) wla rfl (evpE (fun a b=>U a b) rfl rfl) rfl) ?_;refine kp (fun _ U W=>LR.buildSliceD [.tmp 91] JN rfl rfl (.cons U rfl rfl<|.nil) (by decide) (by decide)) ?_;obtain⟨hy124,h⟩:=zy h;refine PQe.stepA [79,82] (fun _ U W ha=>LR.appTD (enc:=TRow.e) (L:=(([]:List TRow)++s114)) (R:=[(⟨x120.dev,y122.1⟩:TRow)]) [79,82] hK JN underlying26 (U rfl rfl) rfl (W rfl rfl) (Src.slT (enc:=TRow.e) (R:=[(⟨x120.dev,y122.1⟩:TRow)]) (U rfl rfl) (fun _=>rfl)) (fun _=>rfl) hy124 rfl ha) rfl (.inl rfl) rfl ?_;refine h5 ?_;refine ks (fun _ U W=>sB (ns:=[_,_,_,_,_,_,_]) sizeOf26 U U rfl rfl (W rfl rfl) rfl rfl)<|PQe.nil<|zx [2,4,5,10] [2,5,15] ?_;refine zK ?_;exact⟨((IntKind.i64.wrap (i113+1)),((([]:List TRow)++s114)++[(⟨x120.dev,y122.1⟩:TRow)]),y122.2.1,y122.2.2.1,y122.2.2.2),(),h,sP⟩
     ·refine wZ ?_;exact⟨(s114,v115,v116,v117),(),h,sP⟩
    ·rintro⟨s90,v91,v92,v93⟩ _ h;refine zQ ?_;obtain⟨y125,hy126,h⟩:=zV h;refine xO [(100,15)] [] [100] (JT hy126) call39 ?_;refine zG ?_;refine zx [2,4,5] [2,5,15] ?_;refine zE ?_;obtain⟨y127,hy128,h⟩:=zV h;refine xO [(100,15)] [] [100] (QP hy128) call40 ?_;refine zK ?_;refine zx [2,4,5] [2,5,15] ?_;refine zE ?_;obtain⟨y129,hy130,h⟩:=zV h;refine xO [(100,15)] [] [100] (Zk hy130) call41 ?_;refine zE ?_;refine yF (zO h) 124 [2,4,5] [2,5] (fun⟨v131,v132,v133⟩=>([],[(15,.cells 88 [zW (eK .u8) v131,zC .i64 v132,zC .i64 v133])])) (fun h=>?_) ?_
     ·refine zD h (fun h=>?_) fun h=>?_
      ·refine g5 ?_;refine zx [2,4,5] [2,5,15] ?_;refine zE ?_;obtain⟨v135,hy136,h⟩:=zV h;refine xN (w9a hy136) call24 ?_;refine qr ?_;refine zD h (fun h=>?_) fun h=>?_
       ·refine zE ?_;obtain⟨y138,hy139,h⟩:=zV h;refine xO [(100,15)] [] [100] (zP hy139) call37 ?_;refine g5 ?_;exact⟨(y138.1,y138.2.1,y138.2.2),(),h,sP⟩
       ·refine g5 ?_;exact⟨(y129.2.1,y129.2.2.1,y129.2.2.2),(),h,sP⟩
      ·refine g5 ?_;exact⟨(y129.2.1,y129.2.2.1,y129.2.2.2),(),h,sP⟩
     ·rintro⟨v131,v132,v133⟩ _ h;refine ym ?_;refine zD h (fun h=>?_) fun h=>?_
      ·refine g5 ?_;refine zx [2,4] [2,15] ?_;refine PWc.regionE [{ws:=[118]},yf [119] [15],yf [120] [15],yf [121] [15],⟨[122],[],[15],[],[],[],[],[]⟩,⟨[],[2],[2],[],[],[],[],[]⟩,{ws:=[3]}] (by kernel_rfl) (by kernel_rfl) rfl ?_;refine kp (fun _ U W=>LR.build (ns:=[_,_,_,_,_,_,_]) UH rfl (evpE (fun a b=>U a b) rfl rfl) rfl) ?_;refine xX ?_;refine ks (fun _ U W=>sB (ns:=[_,_,_,_,_,_,_]) sizeOf31 U U rfl rfl (W rfl rfl) rfl rfl) ?_;refine h5 ?_;refine PQe.nil<|wX ?_;cases h;exact⟨.inr rfl,_,.cons (.agg isAgg31 sizeOf31 rfl rfl rfl rfl)<|.cons (.tmp rfl rfl)<|.nil,rfl⟩
      ·refine ze ?_;refine wX ?_;cases h;exact⟨.inr rfl,_,.cons (.agg isAgg31 sizeOf31 rfl rfl rfl rfl)<|.cons (.tmp rfl rfl)<|.nil,rfl⟩
theorem vCa{a1 b2 r0}(h:(Jz a1 b2).wp (·=r0)):PFun prog 42 [zW TMember.e a1,zW TMember.e b2] (.d (.v (.bool r0))):=by
 refine ya [0,1] func42 ntmps42 ?_;intro ctx hK;refine vu ?_;refine zD h (fun h=>?_) fun h=>?_
 ·refine zG ?_;refine wX ?_;cases h;exact xT
 ·refine zY ?_;refine wq (zO h) 26 [] [] (fun _=>([],[])) (fun h=>?_) ?_
  ·refine g5 ?_;refine zf h 26 [0,1] [] (fun i17=>([(5,zC .i64 i17)],[])) ?_;rintro N i17 _ h;refine zl ?_;refine zD h (fun h=>?_) fun h=>?_
   ·refine zK ?_;refine yW ?_;obtain⟨x19,hy20,h⟩:=yO h;refine yz hy20 ?_;refine yC ?_;obtain⟨x21,hy22,h⟩:=yO h;refine yz hy22 ?_;refine h5 ?_;refine qs (fun _ U W=>LR.neqAgg U U rfl rfl eq59) ?_;refine h5 ?_;refine zD h (fun h=>?_) fun h=>?_
    ·refine zG ?_;refine wX ?_;cases h;exact xT
    ·refine zY ?_;exact⟨(IntKind.i64.wrap (i17+1)),(),h,sP⟩
   ·refine wZ ?_;exact⟨(),(),h,sP⟩
  ·rintro _ _ h;refine zG ?_;refine wX ?_;cases h;exact xT
theorem vDa{a1 b2 r0}(h:(qA a1 b2).wp (·=r0)):PFun prog 119 [zW DT.e a1,zW DT.e b2] (.d (.v (.bool r0))):=by
 refine ya [0,1] func119 ntmps119 ?_;intro ctx hK;refine vu ?_;refine zD h (fun h=>?_) fun h=>?_
 ·refine zG ?_;refine wX ?_;cases h;exact xT
 ·refine zY ?_;refine wq (zO h) 26 [] [] (fun _=>([],[])) (fun h=>?_) ?_
  ·refine g5 ?_;refine zf h 26 [0,1] [] (fun i17=>([(5,zC .i64 i17)],[])) ?_;rintro N i17 _ h;refine zl ?_;refine zD h (fun h=>?_) fun h=>?_
   ·refine zK ?_;refine yW ?_;obtain⟨x19,hy20,h⟩:=yO h;refine yz hy20 ?_;refine yC ?_;obtain⟨x21,hy22,h⟩:=yO h;refine yz hy22 ?_;refine h5 ?_;refine qs (fun _ U W=>LR.neqAgg U U rfl rfl yAa) ?_;refine h5 ?_;refine zD h (fun h=>?_) fun h=>?_
    ·refine zG ?_;refine wX ?_;cases h;exact xT
    ·refine zY ?_;exact⟨(IntKind.i64.wrap (i17+1)),(),h,sP⟩
   ·refine wZ ?_;exact⟨(),(),h,sP⟩
  ·rintro _ _ h;refine zG ?_;refine wX ?_;cases h;exact xT
theorem vEa{a1 b2 r0}(h:(qB a1 b2).wp (·=r0)):PFun prog 83 [.agg (List.map .d (EV.e a1)),.agg (List.map .d (EV.e b2))] (.d (.v (.bool r0))):=by
 refine ya [0,1] func83 ntmps83 ?_;intro ctx hK;refine ze ?_;refine yF (zO h) 45 [] [] (fun v3=>([(4,.d (.v (.bool v3)))],[])) (fun h=>?_) ?_
 ·refine zK ?_;refine ws (LR.eqlAgg rfl rfl rfl rfl yAa) ?_;refine g5 ?_;refine yK 10 h (fun h=>?_) fun h=>?_
  ·refine ze ?_;refine yK 17 h (fun h=>?_) fun h=>?_
   ·refine g5 ?_;refine xd [2,3,4,17,18] [2,3] ?_;refine zY ?_;refine yK 24 h (fun h=>?_) fun h=>?_
    ·refine ze ?_;refine yK 31 h (fun h=>?_) fun h=>?_
     ·refine g5 ?_;refine xd [2,3,4,31,32] [2,3] ?_;refine zY ?_;refine yK 38 h (fun h=>?_) fun h=>?_
      ·refine zG ?_;obtain⟨v9,hy10,h⟩:=zV h;refine wt (cN (vDa hy10) rfl call119 rfl rfl rfl rfl) ?_;refine zQ ?_;exact⟨v9,(),h,sP⟩
      ·refine zl ?_;exact⟨false,(),h,sP⟩
     ·refine g5 ?_;refine xd [2,3,4,31,32] [2,3] ?_;refine JP ?_;exact⟨false,(),h,sP⟩
    ·refine ym ?_;refine xd [2,3,4,31,33] [2,3] ?_;refine vu ?_;exact⟨false,(),h,sP⟩
   ·refine g5 ?_;refine xd [2,3,4,17,18] [2,3] ?_;refine zda ?_;refine xd [2,3,4,31,33,34] [2,3] ?_;refine qr ?_;exact⟨false,(),h,sP⟩
  ·refine ym ?_;refine xd [2,3,4,17,19] [2,3] ?_;refine zda ?_;refine xd [2,3,4,31,33,35] [2,3] ?_;refine vi ?_;exact⟨false,(),h,sP⟩
 ·rintro v3 _ h;refine wX ?_;cases h;exact xT
theorem ZTa{a1 b2 r0}(h:(yIa a1 b2).wp (·=r0)):PFun prog 44 [zW EV.e a1,zW EV.e b2] (.d (.v (.bool r0))):=by
 refine ya [0,1] func44 ntmps44 ?_;intro ctx hK;refine vu ?_;refine zD h (fun h=>?_) fun h=>?_
 ·refine zG ?_;refine wX ?_;cases h;exact xT
 ·refine zY ?_;refine wq (zO h) 27 [] [] (fun _=>([],[])) (fun h=>?_) ?_
  ·refine g5 ?_;refine zf h 27 [0,1] [] (fun i21=>([(5,zC .i64 i21)],[])) ?_;rintro N i21 _ h;refine zl ?_;refine zD h (fun h=>?_) fun h=>?_
   ·refine zK ?_;refine yW ?_;obtain⟨x23,hy24,h⟩:=yO h;refine yz hy24 ?_;refine yC ?_;obtain⟨x25,hy26,h⟩:=yO h;refine yz hy26 ?_;refine h5 ?_;obtain⟨v27,hy28,h⟩:=zV h;refine qs (fun _ U W=>cN (vEa hy28) U call83 (Ya (fun a b=>U a b) rfl rfl) rfl rfl rfl) ?_;refine yW ?_;refine zD h (fun h=>?_) fun h=>?_
    ·refine zG ?_;refine wX ?_;cases h;exact xT
    ·refine zY ?_;exact⟨(IntKind.i64.wrap (i21+1)),(),h,sP⟩
   ·refine wZ ?_;exact⟨(),(),h,sP⟩
  ·rintro _ _ h;refine zG ?_;refine wX ?_;cases h;exact xT
theorem vFa{a1 b2 r0}(h:(qC a1 b2).wp (·=r0)):PFun prog 13 [.agg (List.map .d (THubState.e a1)),.agg (List.map .d (THubState.e b2))] (.d (.v (.bool r0))):=by
 refine ya [0,1] func13 ntmps13 ?_;intro ctx hK;refine zl ?_;refine yF (zO h) 115 [2,3] [2,3] (fun v3=>([(60,.d (.v (.bool v3)))],[])) (fun h=>?_) ?_
 ·refine ze ?_;refine yK 12 h (fun h=>?_) fun h=>?_
  ·refine ym ?_;refine xd [2,3,19,21] [2,3] ?_;refine qu ?_;refine xd [2,3,36,38] [2,3] ?_;refine qu ?_;refine xd [2,3,53,55] [2,3] ?_;refine zY ?_;exact⟨true,(),h,sP⟩
  ·refine ze ?_;refine yK 19 h (fun h=>?_) fun h=>?_
   ·refine g5 ?_;refine xd [2,3,19,20] [2,3] ?_;refine qu ?_;refine xd [2,3,36,37] [2,3] ?_;refine qu ?_;refine xd [2,3,53,54] [2,3] ?_;refine ze ?_;exact⟨true,(),h,sP⟩
   ·refine g5 ?_;refine xd [2,3,19,20] [2,3] ?_;refine zQ ?_;obtain⟨v6,hy7,h⟩:=zV h;refine wt (cN (vCa hy7) rfl call42 rfl rfl rfl rfl) ?_;refine zQ ?_;refine yK 27 h (fun h=>?_) fun h=>?_
    ·refine ym ?_;refine xd [2,3,36] [2,3] ?_;refine YNa ?_;refine xd [2,3,53,54] [2,3] ?_;refine ze ?_;exact⟨true,(),h,sP⟩
    ·refine ym ?_;refine xd [2,3,36] [2,3] ?_;refine yK 36 h (fun h=>?_) fun h=>?_
     ·refine qu ?_;refine xd [2,3,53] [2,3] ?_;refine zl ?_;exact⟨true,(),h,sP⟩
     ·refine ym ?_;refine yK 45 h (fun h=>?_) fun h=>?_
      ·refine ze ?_;refine xd [2,3,52] [2,3] ?_;refine ym ?_;exact⟨true,(),h,sP⟩
      ·refine zG ?_;obtain⟨v11,hy12,h⟩:=zV h;refine wt (cN (QJ hy12) rfl call43 rfl rfl rfl rfl) ?_;refine zE ?_;refine xd [2,3,52] [2,3] ?_;refine g5 ?_;refine yK 53 h (fun h=>?_) fun h=>?_
       ·refine zl ?_;exact⟨true,(),h,sP⟩
       ·refine zG ?_;obtain⟨v14,hy15,h⟩:=zV h;refine wt (cN (ZTa hy15) rfl call44 rfl rfl rfl rfl) ?_;refine zQ ?_;exact⟨(!v14),(),h,sP⟩
 ·rintro v3 _ h;refine zD h (fun h=>?_) fun h=>?_
  ·refine zG ?_;refine wX ?_;cases h;exact xT
  ·refine zY ?_;refine wq (zO h) 115 [2,3] [2,3] (fun _=>([],[])) (fun h=>?_) ?_
   ·refine g5 ?_;refine zf h 115 [2,3] [2,3] (fun i30=>([(5,zC .i64 i30)],[])) ?_;rintro N i30 _ h;refine ym ?_;refine zD h (fun h=>?_) fun h=>?_
    ·refine zK ?_;refine yC ?_;obtain⟨x32,hy33,h⟩:=yO h;refine yz hy33 ?_;refine xX ?_;obtain⟨x34,hy35,h⟩:=yO h;refine yz hy35 ?_;refine yC ?_;refine zD h (fun h=>?_) fun h=>?_
     ·refine zG ?_;refine wX ?_;cases h;exact xT
     ·refine zG ?_;refine xd [2,3,5,67] [2,3] ?_;refine zE ?_;exact⟨(IntKind.i64.wrap (i30+1)),(),h,sP⟩
    ·refine wZ ?_;exact⟨(),(),h,sP⟩
   ·rintro _ _ h;refine zK ?_;refine wq (zO h) 115 [] [] (fun _=>([],[])) (fun h=>?_) ?_
    ·refine g5 ?_;refine zf h 115 [2,3] [2,3] (fun i66=>([(6,zC .i64 i66)],[])) ?_;rintro N i66 _ h;refine ym ?_;refine zD h (fun h=>?_) fun h=>?_
     ·refine zG ?_;refine yF (zO h) 115 [2,3,6] [2,3] (fun v68=>([(114,.d (.v (.bool v68)))],[])) (fun h=>?_) ?_
      ·refine g5 ?_;refine yC ?_;obtain⟨x69,hy70,h⟩:=yO h;refine yz hy70 ?_;refine WJ ?_;obtain⟨x71,hy72,h⟩:=yO h;refine yz hy72 ?_;refine xX ?_;refine vn 99 h (fun h=>?_) fun h=>?_
       ·refine YPa ?_;refine jX [2,3,6,99,100,101,102,103,104,105,106,107,108,109,110,111,112,113] ?_;refine yW ?_;exact⟨true,(),h,sP⟩
       ·refine yC ?_;obtain⟨x74,hy75,h⟩:=yO h;refine vS hy75 ?_;refine WJ ?_;obtain⟨x76,hy77,h⟩:=yO h;refine vS hy77 ?_;refine yW ?_;obtain⟨v78,hy79,h⟩:=zV h;refine qt (fun _ U W=>cN (QJ hy79) U call43 (Ya (fun a b=>U a b) rfl rfl) rfl rfl rfl) ?_;refine h5 ?_;refine jX [2,3,6,99,100,101,102,103,104,105,106,107,108,109,110,111,112,113] ?_;refine yW ?_;exact⟨(!v78),(),h,sP⟩
      ·rintro v68 _ h;refine zD h (fun h=>?_) fun h=>?_
       ·refine zG ?_;refine wX ?_;cases h;exact xT
       ·refine zY ?_;exact⟨(IntKind.i64.wrap (i66+1)),(),h,sP⟩
     ·refine wZ ?_;exact⟨(),(),h,sP⟩
    ·rintro _ _ h;refine zG ?_;refine wX ?_;cases h;exact xT
theorem JY(b1:List Int)(r0:Bool)(h:(Zh b1).wp (·=r0)):PFun prog 4 [zW (eK .u8) b1] (.d (.v (.bool r0))):=by
 refine ya [0] func4 ntmps4 ?_;intro ctx hK;refine vi ?_;refine zD h (fun h=>?_) fun h=>?_
 ·refine zE ?_;obtain⟨v3,hy4,h⟩:=zV h;refine xN (JS v3 hy4) call7 ?_;refine zE ?_;refine wX ?_;cases h;exact xT
 ·refine zG ?_;obtain⟨v5,hy6,h⟩:=zV h;refine xN (xha hy6) call11 ?_;refine wV ?_;obtain⟨v7,hy8,h⟩:=zV h;refine xN (ZSa hy8) call12 ?_;refine zl ?_;refine yF (zO h) 32 [] [] (fun v9=>([(2,.d (.v (.bool v9)))],[])) (fun h=>?_) ?_
  ·refine zQ ?_;refine xd [2,4,6,21,22] [] ?_;obtain⟨v10,hy11,h⟩:=zV h;refine xN (vFa hy11) call13 ?_;refine g5 ?_;refine yK 24 h (fun h=>?_) fun h=>?_
   ·refine zK ?_;refine yK 29 h (fun h=>?_) fun h=>?_
    ·obtain⟨v14,hy15,h⟩:=zV h;refine wt (cN (JS v14 hy15) rfl call7 rfl rfl rfl rfl) ?_;refine zQ ?_;exact⟨v14,(),h,sP⟩
    ·refine zG ?_;exact⟨false,(),h,sP⟩
   ·refine ym ?_;exact⟨false,(),h,sP⟩
  ·rintro v9 _ h;refine wX ?_;cases h;exact xT
end Go.Proofs
namespace Go.Ep
open Go
theorem uV{n:Int}(h:-9223372036854775808<=n)(h':n<=9223372036854775807):IntKind.i64.wrap n=n:=by simp[IntKind.wrap,IntKind.bits,IntKind.signed];omega
theorem uW{n:Int}(h:0<=n)(h':n<=18446744073709551615):IntKind.u64.wrap n=n:=by simp[IntKind.wrap,IntKind.bits,IntKind.signed];omega
theorem wU16{n:Int}(h:0<=n)(h':n<=65535):IntKind.u16.wrap n=n:=by simp[IntKind.wrap,IntKind.bits,IntKind.signed];omega
theorem wU8{n:Int}(h:0<=n)(h':n<=255):IntKind.u8.wrap n=n:=by simp[IntKind.wrap,IntKind.bits,IntKind.signed];omega
theorem yM{i:Nat}(h:i < 9223372036854775807):IntKind.i64.wrap ((i:Int)+1)=((i+1:Nat):Int):=by rw[uV (by omega) (by omega)];rfl
namespace M
variable{α β σ ρ τ ε:Type}
theorem wx(p:Prop)[Decidable p](x y:M α):cond (decide p) x y=if p then x else y:=by by_cases h:p <;> simp[h]
theorem XP{body:σ->M (Step σ ρ)}(l:List ε)(mk:Nat->τ->σ)(f:τ->ε->τ)(g:τ->M ρ)
  (I:Nat->τ->Prop) (h1:∀ (i:Nat) (x:ε) (t:τ),l[i]?=some x->i < l.length->I i t->body (mk i t)=pure (.next (mk (i+1) (f t x)))/\I (i+1) (f t x))
  (h2:∀ t,I l.length t->body (mk l.length t)=(g t).bind fun r=>pure (.done r)) (t0:τ) (h0:I 0 t0):loop body (mk 0 t0)=g (l.foldl f t0):=by
 have key:∀ k i t,i+k=l.length->I i t->loop body (mk i t)=g ((l.drop i).foldl f t):=by
  intro k
  induction k with
  | zero=>
   intro i t hi hI;have:i=l.length:=by omega
   subst this;rw[qi,h2 t hI,List.drop_length]
   rfl
  | succ k ih=>
   intro i t hi hI;have hlt:i < l.length:=by omega
   obtain⟨h3,h4⟩:=h1 i l[i] t (List.getElem?_eq_getElem hlt) hlt hI;rw[zi h3,ih (i+1) _ (by omega) h4,List.drop_eq_getElem_cons hlt]
   rfl
 simpa using key l.length 0 t0 (by omega) h0
theorem loopF{body:σ->M (Step σ ρ)}(l:List ε)(mk:Nat->σ)(p:Nat->ε->Bool)(r:Nat->ε->ρ)(d:M ρ)
  (h1:∀ (i:Nat) (x:ε),l[i]?=some x->i < l.length->body (mk i)=if p i x then pure (.done (r i x)) else pure (.next (mk (i+1))))
  (h2:body (mk l.length)=d.bind fun r=>pure (.done r)):loop body (mk 0)=match (l.zipIdx).find? (fun y=>p y.2 y.1) with | some y=>pure (r y.2 y.1) | none=>d:=by
 have key:∀ k i,i+k=l.length->loop body (mk i)=match ((l.drop i).zipIdx i).find? (fun y=>p y.2 y.1) with | some y=>pure (r y.2 y.1) | none=>d:=by
  intro k
  induction k with
  | zero=>
   intro i hi;have:i=l.length:=by omega
   subst this;rw[qi,h2,List.drop_length]
   rfl
  | succ k ih=>
   intro i hi;have hlt:i < l.length:=by omega
   have h3:=h1 i l[i] (List.getElem?_eq_getElem hlt) hlt;rw[List.drop_eq_getElem_cons hlt,List.zipIdx_cons,List.find?_cons]
   by_cases hp:p i l[i]=true
   ·rw[if_pos hp] at h3;rw[zT h3];simp[hp]
   ·rw[if_neg hp] at h3;rw[zi h3,ih (i+1) (by omega)];simp[hp]
 simpa using key l.length 0 (by omega)
theorem vq{body:σ->M (Step σ ρ)}(l:List ε)(mk:Nat->σ)(p:Nat->ε->Bool)(r1 r2:ρ)
  (h1:∀ (i:Nat) (x:ε),l[i]?=some x->i < l.length->body (mk i)=if p i x then pure (.next (mk (i+1))) else pure (.done r2))
  (h2:body (mk l.length)=pure (.done r1)):loop body (mk 0)=pure (if l.zipIdx.all (fun y=>p y.2 y.1) then r1 else r2):=by
 have key:∀ k i,i+k=l.length->loop body (mk i)=pure (if ((l.drop i).zipIdx i).all (fun y=>p y.2 y.1) then r1 else r2):=by
  intro k
  induction k with
  | zero=>
   intro i hi;have:i=l.length:=by omega
   subst this;rw[zT h2,List.drop_length]
   rfl
  | succ k ih=>
   intro i hi;have hlt:i < l.length:=by omega
   have h3:=h1 i l[i] (List.getElem?_eq_getElem hlt) hlt;rw[List.drop_eq_getElem_cons hlt,List.zipIdx_cons,List.all_cons]
   by_cases hp:p i l[i]=true
   ·rw[if_pos hp] at h3;rw[zi h3,ih (i+1) (by omega),hp,Bool.true_and]
   ·rw[if_neg hp] at h3;rw[zT h3];simp[hp]
 have:=key l.length 0 (by omega);rw[List.drop_zero] at this;exact this
def came{ε:Type}(m:List ε)(L:List Nat):List ε:=L.filterMap fun i=>m[i]?
theorem Yna{m:List ε}{L:List Nat}{i:Nat}{y:ε}(h:m[i]?=some y):came m (L++[i])=came m L++[y]:=by simp[came,h]
theorem uHa{n:Nat}{L:List Nat}(hn:L.Nodup)(hb:∀ i∈L,i < n)(ha:∀ i,i < n->i∈L):L.Perm (List.range n):=by
 refine(List.perm_ext_iff_of_nodup hn List.nodup_range).2 fun i=>?_
 rw[List.mem_range];exact⟨hb i,ha i⟩
theorem Yoa{m:List ε}{L:List Nat}(hn:L.Nodup)(hb:∀ i∈L,i < m.length)(ha:∀ i,i < m.length->i∈L):(came m L).Perm m:=by
 have h1:=(uHa hn hb ha).filterMap fun i=>m[i]?
 have h2:(List.range m.length).filterMap (fun i=>m[i]?)=m:=by
  apply List.ext_getElem?;intro i;clear h1 hn hb ha;have:(List.range m.length).filterMap (fun i=>m[i]?)=m:=by
   induction m with
   | nil=>rfl
   | cons x r ih=>
    rw[List.length_cons,List.range_succ_eq_map,List.filterMap_cons];simp only[List.getElem?_cons_zero,List.filterMap_map]
    congr 1
  rw[this]
 rw[h2] at h1;exact h1
theorem Ypa{n:Nat}{L:List Nat}(hn:L.Nodup)(hb:∀ i∈L,i < n):L.length<=n:=by
 have:=List.Nodup.length_le_of_subset hn (l₂:=List.range n) (fun i hi=>List.mem_range.2 (hb i hi));simpa using this
theorem full{n:Nat}{L:List Nat}(hn:L.Nodup)(hb:∀ i∈L,i < n)(hl:n<=L.length):∀ i,i < n->i∈L:=by
 intro i hi;refine Classical.byContradiction fun hni=>?_
 have:=Ypa (n:=n) (L:=i::L) (List.nodup_cons.2 ⟨hni,hn⟩) (fun j hj=>by
  rcases List.mem_cons.1 hj with rfl | hj
  ·exact hi
  ·exact hb j hj)
 simp at this;omega
theorem loopM{body:σ->M (Step σ ρ)}(m:List ε)(mk:List Nat->τ->σ)(f:τ->ε->M τ)(g:τ->M ρ)(I:List ε->τ->Prop)(Q:ρ->Prop)
  (hb:∀ L t,(∀ i∈L,i < m.length)->body (mk L t)=yk (∀ i∈L,i < m.length) ((nxt m.length L).bind fun o=>match o with
   | none=>(g t).bind fun r=>pure (.done r)
   | some i=>(idx m (Int.ofNat i)).bind fun y=>(f t y).bind fun t'=>pure (.next (mk (L++[i]) t'))))
  (hs:∀ l t y,I l t->l.length < m.length->y∈m->∃ t',f t y=pure t'/\I (l++[y]) t') (he:∀ l t,l.Perm m->I l t->(g t).wp Q) (t0:τ) (h0:I [] t0):(loop body (mk [] t0)).wp Q:=by
 have key:∀ k L t,L.length+k=m.length->L.Nodup->(∀ i∈L,i < m.length)->I (came m L) t->z4a body Q (mk L t):=by
  intro k
  induction k with
  | zero=>
   intro L t hk hn hlt hI;refine Ud ?_;rw[hb L t hlt];have hall:∀ i,i < m.length->i∈L:=fun i hi=>full hn hlt (by omega) i hi
   refine⟨hlt,⟨⟨none,hall⟩,fun o ho=>?_⟩⟩
   cases o with
   | none=>
    have:=he _ t (Yoa hn hlt hall) hI;exact this
   | some i=>exact absurd (hall i ho.1) ho.2
  | succ k ih=>
   intro L t hk hn hlt hI;refine Ud ?_;rw[hb L t hlt];have hex:∃ i,i < m.length/\i∉L:=by
    refine Classical.byContradiction fun hno=>?_
    have hall:∀ i,i < m.length->i∈L:=fun i hi=>Classical.byContradiction fun h=>hno ⟨i,hi,h⟩
    have:=(uHa hn hlt hall).length_eq;simp at this;omega
   obtain⟨i0,hi0⟩:=hex;refine⟨hlt,⟨⟨some i0,hi0⟩,fun o ho=>?_⟩⟩
   cases o with
   | none=>exact absurd (ho i0 hi0.1) hi0.2
   | some i=>
    have hi:=List.getElem?_eq_getElem ho.1;obtain⟨t',h1,h2⟩:=hs (came m L) t m[i] hI (by have:=List.length_filterMap_le (fun i=>m[i]?) L;unfold came;omega) (List.getElem_mem ho.1);show((idx m (Int.ofNat i)).bind _).wp _;rw[show(Int.ofNat i)=(i:Int) from rfl,zR hi,zA,h1,zA];refine ih (L++[i]) t' (by simp;omega) ?_ ?_ (by rw[Yna hi];exact h2)
    ·rw[List.nodup_append];refine⟨hn,by simp,fun a ha b hb'=>?_⟩;rw[List.mem_singleton.1 hb'];intro e;exact ho.2 (e▸ha)
    ·intro j hj;rcases List.mem_append.1 hj with hj | hj
     ·exact hlt j hj
     ·rw[List.mem_singleton.1 hj];exact ho.1
 exact key m.length [] t0 (by simp) List.nodup_nil (by simp) h0
end M
namespace AL
variable{κ ν:Type}[DecidableEq κ]
theorem get_set(m:List (κ×ν))(k q:κ)(v:ν):get (set m k v) q=if k=q then some v else get m q:=by
 induction m with
 | nil=>simp[set,get]
 | cons x r ih=>
  obtain⟨a,u⟩:=x
  by_cases h:a=k
  ·subst h;simp only[set,if_true,get];split <;> rfl
  ·simp only[set,h,if_false,get,ih]
   by_cases h2:a=q
   ·subst h2;simp[Ne.symm h]
   ·simp[h2]
theorem getZ_set(m:List (κ×ν))(k q:κ)(v z:ν):getZ (set m k v) q z=if k=q then v else getZ m q z:=by
 unfold getZ;rw[get_set];split <;> rfl
theorem keys_set(m:List (κ×ν))(k:κ)(v:ν):(set m k v).map (·.1)=if k∈m.map (·.1) then m.map (·.1) else m.map (·.1)++[k]:=by
 induction m with
 | nil=>simp[set]
 | cons x r ih=>
  obtain⟨a,u⟩:=x
  by_cases h:a=k
  ·subst h;simp[set]
  ·simp only[set,h,if_false,List.map_cons,ih,List.mem_cons,Ne.symm h,false_or]
   split <;> simp
theorem nodup_set{m:List (κ×ν)}(h:(m.map (·.1)).Nodup)(k:κ)(v:ν):((set m k v).map (·.1)).Nodup:=by
 rw[keys_set]
 split
 ·exact h
 ·rename_i hk
  rw[List.nodup_append];refine⟨h,by simp,fun a ha b hb=>?_⟩;rw[List.mem_singleton.1 hb];intro e;exact hk (e▸ha)
theorem get_none{m:List (κ×ν)}{k:κ}:get m k=none↔k∉m.map (·.1):=by
 induction m with
 | nil=>simp[get]
 | cons x r ih=>
  obtain⟨a,u⟩:=x
  by_cases h:a=k
  ·subst h;simp[get]
  ·simp[get,h,ih,Ne.symm h]
theorem get_mem{m:List (κ×ν)}{k:κ}{v:ν}(h:get m k=some v):(k,v)∈m:=by
 induction m with
 | nil=>simp[get] at h
 | cons x r ih=>
  obtain⟨a,u⟩:=x
  by_cases e:a=k
  ·subst e;simp[get] at h;subst h;simp
  ·simp only[get,e,if_false] at h;exact List.mem_cons_of_mem _ (ih h)
theorem mem_get{m:List (κ×ν)}(hn:(m.map (·.1)).Nodup){k:κ}{v:ν}(h:(k,v)∈m):get m k=some v:=by
 induction m with
 | nil=>simp at h
 | cons x r ih=>
  obtain⟨a,u⟩:=x;simp only[List.map_cons,List.nodup_cons] at hn;rcases List.mem_cons.1 h with e | h
  ·cases e;simp[get]
  ·have:a≠k:=fun e=>hn.1 (e▸List.mem_map.2 ⟨(k,v),h,rfl⟩)
   simp only[get,this,if_false];exact ih hn.2 h
theorem len_set(m:List (κ×ν))(k:κ)(v:ν):(set m k v).length<=m.length+1:=by
 induction m with
 | nil=>simp[set]
 | cons x r ih=>
  obtain⟨a,u⟩:=x;unfold set
  split
  ·simp
  ·simpa using ih
end AL
end Go.Ep
