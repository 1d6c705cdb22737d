/- Side texts. -/
import Derived.Test.YtnejkopjonigeaaGreatProg
import Derived.KernelRfl
import Derived.Shelf.SlGeneric
import Derived.Shelf.SlLaysF0
import Derived.Ground.SlsfProg
import Derived.Shelf.SlSortCmp.WholeK
import Derived.Test.YtnejkopjonigeaaGreatAHb2
import Derived.Test.YtnejkopjonigeaaGreatAHb4
set_option linter.unusedVariables false
set_option linter.unusedSimpArgs false
namespace Go.Proofs
open Go.Ep
set_option linter.unusedSimpArgs false
theorem Xp(l:List (Value×Nat))(off:Nat):∀ cells:Array Value,(l.foldl (fun cs (p:Value×Nat)=>cs.setIfInBounds (off+p.2) p.1) cells).size=cells.size:=by
 induction l with
 | nil=>intro _;rfl
 | cons x r ih=>intro cells;rw[List.foldl_cons,ih];simp
theorem zua{size n:Nat}{places:List (Nat×Nat)}(hs:0 < size)(hp:places=(List.range n).map fun i=>(i*size,size)):∀ (parts:List (Nat×Value)) (cells:Array Value),cells.size=n*size->Instr.fill (fun i=>some (i*size,size)) cells parts=Instr.fill (fun i=>places.toArray[i]?) cells parts
 | [],_,_=>rfl
 | (i,v)::r,cells,hc=>by
  have hi:places.toArray[i]?=if i < n then some (i*size,size) else none:=by
   subst hp
   by_cases h:i < n
   ·simp[h]
   ·simp[h]
  unfold Instr.fill;rw[hi]
  by_cases h:i < n
  ·rw[if_pos h];dsimp only
   split
   ·rfl
   ·exact zua hs hp r _ (by rw[<- hc,<- Array.foldl_toList];exact Xp _ _ _)
  ·rw[if_neg h];dsimp only;have:n*size<=i*size:=Nat.mul_le_mul_right _ (by omega);rw[if_pos];rw[hc]
   by_cases h2:v.cells.size=size
   ·simp[h2];omega
   ·simp[h2]
theorem zva : ElemOK Tryz.prog 24 59 3 16:=ElemOK.mk' (z:=.agg #[.int .u16 0,.int .u8 0,.int .u64 0]) Tryz.underlying24 (by kernel_rfl) rfl
theorem zwa : ElemOK Tryz.prog 25 22 1 8:=ElemOK.mk' (z:=.int .u64 0) Tryz.underlying25 (by kernel_rfl) rfl
theorem zxa : ElemOK Tryz.prog 26 51 2 32:=ElemOK.mk' (z:=.agg #[.int .u16 0,.slice none 0 0]) Tryz.underlying26 (by kernel_rfl) rfl
theorem VA : ElemOK Tryz.prog 28 99 2 32:=ElemOK.mk' (z:=.agg #[.int .u16 0,.slice none 0 0]) Tryz.underlying28 (by kernel_rfl) rfl
theorem jL : ElemOK Tryz.prog 29 104 7 80:=ElemOK.mk' (z:=.agg #[.int .u16 0,.int .u64 0,.int .u8 0,.int .u64 0,.int .u8 0,.string ⟨#[]⟩,.slice none 0 0]) Tryz.underlying29 (by kernel_rfl) rfl
theorem YP : ElemOK Tryz.prog 34 5 1 1:=ElemOK.mk' (z:=.int .u8 0) Tryz.underlying34 (by kernel_rfl) rfl
theorem VB : ElemOK Tryz.prog 97 124 2 16:=ElemOK.mk' (z:=.agg #[.int .u64 0,.int .u64 0]) Tryz.underlying97 (by kernel_rfl) rfl
theorem uW : ElemOK Tryz.prog 102 101 2 16:=ElemOK.mk' (z:=.agg #[.int .u16 0,.int .u64 0]) Tryz.underlying102 (by kernel_rfl) rfl
theorem elem194 : ElemOK Tryz.prog 194 154 1 8:=ElemOK.mk' (z:=.map none) Tryz.underlying194 (by kernel_rfl) rfl
theorem elem256 : ElemOK Tryz.prog 256 28 1 24:=ElemOK.mk' (z:=.slice none 0 0) Tryz.underlying256 (by kernel_rfl) rfl
theorem Vz : xy Tryz.prog 31 [(0,1),(1,1),(2,1),(3,1),(4,1),(5,1),(6,1)] [.int .u64 0,.int .u16 0,.slice none 0 0,.slice none 0 0,.slice none 0 0,.slice none 0 0,.slice none 0 0]:=fun parts=>by kernel_rfl
theorem wCa : xy Tryz.prog 51 [(0,1),(1,1)] [.int .u16 0,.slice none 0 0]:=fun parts=>by kernel_rfl
theorem wDa : xy Tryz.prog 59 [(0,1),(1,1),(2,1)] [.int .u16 0,.int .u8 0,.int .u64 0]:=fun parts=>by kernel_rfl
theorem Qp : xy Tryz.prog 99 [(0,1),(1,1)] [.int .u16 0,.slice none 0 0]:=fun parts=>by kernel_rfl
theorem VS : xy Tryz.prog 101 [(0,1),(1,1)] [.int .u16 0,.int .u64 0]:=fun parts=>by kernel_rfl
theorem zya : xy Tryz.prog 104 [(0,2),(2,1),(3,1),(4,1),(5,1),(6,1)] [.int .u16 0,.int .u64 0,.int .u8 0,.int .u64 0,.int .u8 0,.string ⟨#[]⟩,.slice none 0 0]:=fun parts=>by kernel_rfl
theorem jq : xy Tryz.prog 112 [(0,1),(1,1),(2,1)] [.pointer none,.pointer none,.pointer none]:=fun parts=>by kernel_rfl
theorem build124 : xy Tryz.prog 124 [(0,1),(1,1)] [.int .u64 0,.int .u64 0]:=fun parts=>by kernel_rfl
theorem build133 : xy Tryz.prog 133 [(0,1)] [.slice none 0 0]:=fun parts=>by kernel_rfl
theorem build135 : xy Tryz.prog 135 [(0,1),(1,1)] [.slice none 0 0,.int .i64 0]:=fun parts=>by kernel_rfl
theorem build150 : xy Tryz.prog 150 [(0,1),(1,1),(2,1),(3,16)] [.int .u64 0,.int .u16 0,.map none,.int .u64 0,.int .u64 0,.int .u64 0,.int .u64 0,.int .u64 0,.int .u64 0,.int .u64 0,.int .u64 0,.int .u64 0,.int .u64 0,.int .u64 0,.int .u64 0,.int .u64 0,.int .u64 0,.int .u64 0,.int .u64 0]:=fun parts=>by kernel_rfl
theorem build153 : xy Tryz.prog 153 [(0,1)] [.map none]:=fun parts=>by kernel_rfl
theorem jr : xy Tryz.prog 156 [(0,1),(1,1),(2,1)] [.slice none 0 0,.map none,.map none]:=fun parts=>by kernel_rfl
theorem zza : xy Tryz.prog 162 [(0,1),(1,1)] [.int .u16 0,.int .u16 0]:=fun parts=>(by kernel_rfl:Tryz.prog.built 162 parts=Instr.fill (fun i=>some (i*1,1)) ([.int .u16 0,.int .u16 0]:List Value).toArray parts).trans (zua (n:=2) (by decide) (by decide) parts _ (by decide))
theorem eq59{a0 b0:Int}{a1 b1:Int}{a2 b2:Int}:qA Tryz.prog 59 [.int .u16 a0,.int .u8 a1,.int .u64 a2] [.int .u16 b0,.int .u8 b1,.int .u64 b2] ((decide (a0=b0)&&(decide (a1=b1)&&decide (a2=b2)))):=by
 refine⟨by kernel_rfl,fun w=>?_⟩;have hu:Tryz.prog.underlying 59=some (.struct (Tryz.prog.fieldsOf 59)):=by simp only[Program.fieldsOf,Tryz.underlying59]
 rw[run_equalIn_agg w 9999 59 _ _ hu (by kernel_rfl)];simp[Program.fieldsOf,Tryz.underlying59,Op.eqFields,part,Tryz.isAgg5,Tryz.isAgg22,Tryz.isAgg23,run_equalIn_int _ 9998 5 _ _ _ _ Tryz.underlying5,run_equalIn_int _ 9998 22 _ _ _ _ Tryz.underlying22,run_equalIn_int _ 9998 23 _ _ _ _ Tryz.underlying23,Result.andThen,ZP]
 all_goals (repeat' split) <;> simp_all
theorem Qq{a0 b0:Int}{a1 b1:Int}:qA Tryz.prog 101 [.int .u16 a0,.int .u64 a1] [.int .u16 b0,.int .u64 b1] ((decide (a0=b0)&&decide (a1=b1))):=by
 refine⟨by kernel_rfl,fun w=>?_⟩;have hu:Tryz.prog.underlying 101=some (.struct (Tryz.prog.fieldsOf 101)):=by simp only[Program.fieldsOf,Tryz.underlying101]
 rw[run_equalIn_agg w 9999 101 _ _ hu (by kernel_rfl)];simp[Program.fieldsOf,Tryz.underlying101,Op.eqFields,part,Tryz.isAgg22,Tryz.isAgg23,run_equalIn_int _ 9998 22 _ _ _ _ Tryz.underlying22,run_equalIn_int _ 9998 23 _ _ _ _ Tryz.underlying23,Result.andThen,ZP]
 all_goals (repeat' split) <;> simp_all
theorem eq124{a0 b0:Int}{a1 b1:Int}:qA Tryz.prog 124 [.int .u64 a0,.int .u64 a1] [.int .u64 b0,.int .u64 b1] ((decide (a0=b0)&&decide (a1=b1))):=by
 refine⟨by kernel_rfl,fun w=>?_⟩;have hu:Tryz.prog.underlying 124=some (.struct (Tryz.prog.fieldsOf 124)):=by simp only[Program.fieldsOf,Tryz.underlying124]
 rw[run_equalIn_agg w 9999 124 _ _ hu (by kernel_rfl)];simp[Program.fieldsOf,Tryz.underlying124,Op.eqFields,part,Tryz.isAgg22,run_equalIn_int _ 9998 22 _ _ _ _ Tryz.underlying22,Result.andThen,ZP]
 all_goals (repeat' split) <;> simp_all
theorem eq162{a0 b0:Int}{a1 b1:Int}:qA Tryz.prog 162 [.int .u16 a0,.int .u16 a1] [.int .u16 b0,.int .u16 b1] ((decide (a0=b0)&&decide (a1=b1))):=by
 refine⟨by kernel_rfl,fun w=>?_⟩;obtain⟨i,hi⟩:=Option.isSome_iff_exists.1 (by kernel_rfl:(Tryz.prog.info? 23).isSome=true);have hc:Tryz.prog.cellsOf 23=1:=by kernel_rfl
 rw[run_equalIn_array w 9999 _ _ Tryz.underlying162 hi,hc,show List.range 2=[0,1] from rfl];simp[Op.eqItems,part,Tryz.isAgg23,run_equalIn_int _ 9998 23 _ _ _ _ Tryz.underlying23,Result.andThen,ZP]
 all_goals (repeat' split) <;> simp_all
theorem key148 : KeyOK Tryz.prog 23 [.u16]:=KeyOK.int Tryz.underlying23
theorem chk151 : ∀ (w:World) (e:Bool) (a b:Int),(Instr.checkKey e 10000 162 (.agg #[.int .u16 a,.int .u16 b])).run Tryz.prog w=.ok () w:=by
 intro w e a b;have q1:∀ w,(Instr.checkKey e 9999 23 (.int .u16 a)).run Tryz.prog w=.ok () w:=fun w=>MapKept.run_checkKey (k:=.int .u16 a) Tryz.underlying23 rfl e 9998
 have q2:∀ w,(Instr.checkKey e 9999 23 (.int .u16 b)).run Tryz.prog w=.ok () w:=fun w=>MapKept.run_checkKey (k:=.int .u16 b) Tryz.underlying23 rfl e 9998
 unfold Instr.checkKey;have hr:∀ n:Nat,List.range' 0 2 n=[0,0+n]:=fun n=>rfl
 simp only[run_underlying Tryz.underlying162,Result.andThen,Sem.run_bind,Std.Legacy.Range.forIn_eq_forIn_range',Std.Legacy.Range.size];simp[hr,part,Tryz.isAgg23,Tryz.sizeOf23,q1,q2,Result.andThen]
theorem key151 : KeyOK Tryz.prog 162 [.u16,.u16]:=KeyOK.pair Tryz.underlying162 (fun _ _=>rfl) chk151 eq162
theorem chk154 : ∀ (w:World) (e:Bool) (a b:Int),(Instr.checkKey e 10000 101 (.agg #[.int .u16 a,.int .u64 b])).run Tryz.prog w=.ok () w:=by
 intro w e a b;have q1:∀ w,(Instr.checkKey e 9999 23 (.int .u16 a)).run Tryz.prog w=.ok () w:=fun w=>MapKept.run_checkKey (k:=.int .u16 a) Tryz.underlying23 rfl e 9998
 have q2:∀ w,(Instr.checkKey e 9999 22 (.int .u64 b)).run Tryz.prog w=.ok () w:=fun w=>MapKept.run_checkKey (k:=.int .u64 b) Tryz.underlying22 rfl e 9998
 unfold Instr.checkKey;simp[run_underlying Tryz.underlying101,Result.andThen,part,Tryz.isAgg23,Tryz.isAgg22,q1,q2]
theorem key154 : KeyOK Tryz.prog 101 [.u16,.u64]:=KeyOK.pair Tryz.underlying101 (fun _ _=>rfl) chk154 Qq
theorem qO : KeyOK Tryz.prog 23 [.u16]:=KeyOK.int Tryz.underlying23
theorem U5{t : TypeId}{u : _}(h : Tryz.prog.underlying t=some u := by with_reducible first | exact Tryz.underlying4 | exact Tryz.underlying5 | exact Tryz.underlying9 | exact Tryz.underlying24 | exact Tryz.underlying25 | exact Tryz.underlying26 | exact Tryz.underlying28 | exact Tryz.underlying29 | exact Tryz.underlying31 | exact Tryz.underlying34 | exact Tryz.underlying51 | exact Tryz.underlying52 | exact Tryz.underlying56 | exact Tryz.underlying59 | exact Tryz.underlying62 | exact Tryz.underlying65 | exact Tryz.underlying78 | exact Tryz.underlying97 | exact Tryz.underlying99 | exact Tryz.underlying101 | exact Tryz.underlying102 | exact Tryz.underlying104 | exact Tryz.underlying105 | exact Tryz.underlying107 | exact Tryz.underlying109 | exact Tryz.underlying112 | exact Tryz.underlying124 | exact Tryz.underlying133 | exact Tryz.underlying135 | exact Tryz.underlying148 | exact Tryz.underlying150 | exact Tryz.underlying151 | exact Tryz.underlying153 | exact Tryz.underlying154 | exact Tryz.underlying156 | exact Tryz.underlying184 | exact Tryz.underlying194 | exact Tryz.underlying256) : Tryz.prog.underlying t=some u := h
theorem I5{t : TypeId}{b : Bool}(h : ∀ w, (isAgg t).run Tryz.prog w=.ok b w := by with_reducible first | exact Tryz.isAgg5 | exact Tryz.isAgg9 | exact Tryz.isAgg22 | exact Tryz.isAgg23 | exact Tryz.isAgg24 | exact Tryz.isAgg25 | exact Tryz.isAgg26 | exact Tryz.isAgg28 | exact Tryz.isAgg29 | exact Tryz.isAgg31 | exact Tryz.isAgg34 | exact Tryz.isAgg35 | exact Tryz.isAgg51 | exact Tryz.isAgg59 | exact Tryz.isAgg97 | exact Tryz.isAgg99 | exact Tryz.isAgg101 | exact Tryz.isAgg102 | exact Tryz.isAgg104 | exact Tryz.isAgg105 | exact Tryz.isAgg107 | exact Tryz.isAgg109 | exact Tryz.isAgg124 | exact Tryz.isAgg148 | exact Tryz.isAgg151 | exact Tryz.isAgg154) : ∀ w, (isAgg t).run Tryz.prog w=.ok b w := h
theorem Z5{t : TypeId}{k : Nat}{k' : _}(h : ∀ w, (sizeOf t).run Tryz.prog w=.ok k' w := by first | (with_reducible first | exact Tryz.sizeOf5 | exact Tryz.sizeOf9 | exact Tryz.sizeOf22 | exact Tryz.sizeOf23 | exact Tryz.sizeOf24 | exact Tryz.sizeOf25 | exact Tryz.sizeOf26 | exact Tryz.sizeOf28 | exact Tryz.sizeOf29 | exact Tryz.sizeOf31 | exact Tryz.sizeOf34 | exact Tryz.sizeOf35 | exact Tryz.sizeOf51 | exact Tryz.sizeOf59 | exact Tryz.sizeOf65 | exact Tryz.sizeOf97 | exact Tryz.sizeOf99 | exact Tryz.sizeOf101 | exact Tryz.sizeOf102 | exact Tryz.sizeOf104 | exact Tryz.sizeOf105 | exact Tryz.sizeOf107 | exact Tryz.sizeOf109 | exact Tryz.sizeOf124 | exact Tryz.sizeOf133 | exact Tryz.sizeOf148 | exact Tryz.sizeOf151 | exact Tryz.sizeOf154 | exact Tryz.sizeOf162) | (simp only[List.getElem_toArray, List.getElem_cons_zero, List.getElem_cons_succ]; with_reducible first | exact Tryz.sizeOf5 | exact Tryz.sizeOf9 | exact Tryz.sizeOf22 | exact Tryz.sizeOf23 | exact Tryz.sizeOf24 | exact Tryz.sizeOf25 | exact Tryz.sizeOf26 | exact Tryz.sizeOf28 | exact Tryz.sizeOf29 | exact Tryz.sizeOf31 | exact Tryz.sizeOf34 | exact Tryz.sizeOf35 | exact Tryz.sizeOf51 | exact Tryz.sizeOf59 | exact Tryz.sizeOf65 | exact Tryz.sizeOf97 | exact Tryz.sizeOf99 | exact Tryz.sizeOf101 | exact Tryz.sizeOf102 | exact Tryz.sizeOf104 | exact Tryz.sizeOf105 | exact Tryz.sizeOf107 | exact Tryz.sizeOf109 | exact Tryz.sizeOf124 | exact Tryz.sizeOf133 | exact Tryz.sizeOf148 | exact Tryz.sizeOf151 | exact Tryz.sizeOf154 | exact Tryz.sizeOf162))(e : k'=k := by rfl) : ∀ w, (sizeOf t).run Tryz.prog w=.ok k w := e▸h
theorem V5{t : TypeId}{v : Value}{v' : _}(h : ∀ w, (zeroValue t).run Tryz.prog w=.ok v' w := by with_reducible first | exact Tryz.zeroValue31 | exact Tryz.zeroValue51 | exact Tryz.zeroValue56 | exact Tryz.zeroValue59 | exact Tryz.zeroValue99 | exact Tryz.zeroValue101 | exact Tryz.zeroValue104 | exact Tryz.zeroValue124 | exact Tryz.zeroValue162)(e : v'=v := by rfl) : ∀ w, (zeroValue t).run Tryz.prog w=.ok v w := e▸h
theorem E5{t e : TypeId}{k bs : Nat}(h : ElemOK Tryz.prog t e k bs := by with_reducible first | exact zwa | exact uW) : ElemOK Tryz.prog t e k bs := h
theorem g5{p q : Prop}(k : q)(h : q → p := by first
  | ((with_reducible show(_ → PWl _ _ _ _ [] _)); exact fun k => wN k)
  | ((with_reducible show(_ → PWl _ _ _ _ (⟨_, _, _, _, _, none⟩::_) _)); first | ((with_reducible show(_ → PWl _ _ _ _ (⟨_, .move _, _, _, _, _⟩::_) _)); first | exact fun k => wm k) | ((with_reducible show(_ → PWl _ _ _ _ (⟨_, .assign _, _, _, _, _⟩::_) _)); first | exact fun k => wa k) | ((with_reducible show(_ → PWl _ _ _ _ (⟨_, .load _ _, _, _, _, _⟩::_) _)); first | exact fun k => ws (lD I5 rfl rfl rfl) k | exact fun k => ws (lA (ps := [_, _]) I5 Z5 rfl rfl rfl rfl) k | exact fun k => ws (lA (ps := [_, _, _, _, _, _, _]) I5 Z5 rfl rfl rfl rfl) k | exact fun k => ws (lE (ys := [_, _]) I5 Z5 rfl rfl rfl) k | exact fun k => ws (LR.loadEp I5 rfl rfl) k | exact fun k => ws (lE (ys := [_, _, _]) I5 Z5 rfl rfl rfl) k | exact fun k => ws (lE (ys := [_, _, _, _, _, _, _]) I5 Z5 rfl rfl rfl) k | exact fun k => ws (lA (ps := [_, _, _]) I5 Z5 rfl rfl rfl rfl) k) | ((with_reducible show(_ → PWl _ _ _ _ (⟨_, .pick _ _ _, _, _, _, _⟩::_) _)); first | exact fun k => ws (pT rfl rfl) k | exact fun k => ws (pF rfl rfl) k) | ((with_reducible show(_ → PWl _ _ _ _ (⟨_, .fieldAddr _ _ _, _, _, _, _⟩::_) _)); first | exact fun k => ws (fR U5 rfl Z5 (by decide) rfl rfl) k | exact fun k => ws (fE U5 rfl Z5 (by decide) rfl rfl) k) | ((with_reducible show(_ → PWl _ _ _ _ (⟨_, .call ⟨.builtin .len, _, _⟩, _, _, _, _⟩::_) _)); first | exact fun k => ws (lM U5 rfl) k | exact fun k => ws (LR.lenRow U5 rfl) k | exact fun k => ws (LR.lenStr U5 rfl) k | exact fun k => ws (LR.lenNil U5 rfl) k | exact fun k => ws (LR.lenPc U5 rfl) k) | ((with_reducible show(_ → PWl _ _ _ _ (⟨_, .store _ _ _, _, _, _, _⟩::_) _)); first | exact fun k => ws (sB (ns := [_, _]) Z5 rfl rfl rfl rfl rfl rfl rfl) k | exact fun k => ws (sB (ns := [_, _, _, _, _, _, _]) Z5 rfl rfl rfl rfl rfl rfl rfl) k | exact fun k => ws (sB (ns := [_, _, _]) Z5 rfl rfl rfl rfl rfl rfl rfl) k | exact fun k => ws (sB (ns := [_, _, _, _, _, _, _, _, _, _, _, _, _, _, _, _, _, _, _]) Z5 rfl rfl rfl rfl rfl rfl rfl) k | exact fun k => ws (sB (ns := [_]) Z5 rfl rfl rfl rfl rfl rfl rfl) k) | ((with_reducible show(_ → PWl _ _ _ _ (⟨_, .binOp .lss _ _ _ _, _, _, _, _⟩::_) _)); first | exact fun k => ws (LR.lss rfl rfl) k) | ((with_reducible show(_ → PWl _ _ _ _ (⟨_, .binOp .add _ _ _ _, _, _, _, _⟩::_) _)); first | exact fun k => ws (LR.addW rfl rfl) k) | ((with_reducible show(_ → PWl _ _ _ _ (⟨_, .extract _ _, _, _, _, _⟩::_) _)); first | exact fun k => ws (LR.extract rfl rfl) k) | ((with_reducible show(_ → PWl _ _ _ _ (⟨_, .alloc _, _, _, _, _⟩::_) _)); first | exact fun k => ws (LR.allocZ (cs := [_, _]) V5 rfl rfl rfl rfl) k | exact fun k => ws (LR.allocZ (cs := [_, _, _, _, _, _, _]) V5 rfl rfl rfl rfl) k | exact fun k => ws (LR.allocZ (cs := [_, _, _]) V5 rfl rfl rfl rfl) k | exact fun k => ws (LR.allocR (cs := [_]) V5 rfl rfl rfl rfl) k) | ((with_reducible show(_ → PWl _ _ _ _ (⟨_, .box _ _, _, _, _, _⟩::_) _)); first | exact fun k => ws (LR.box rfl rfl rfl rfl) k) | ((with_reducible show(_ → PWl _ _ _ _ (⟨_, .binOp .neq _ _ _ _, _, _, _, _⟩::_) _)); first | exact fun k => ws (nQ rfl rfl) k | exact fun k => ws (LR.neqPtr U5 rfl) k) | ((with_reducible show(_ → PWl _ _ _ _ (⟨_, .nilCheck _, _, _, _, _⟩::_) _)); first | exact fun k => ws (LR.nilCheckRef rfl) k) | ((with_reducible show(_ → PWl _ _ _ _ (⟨_, .binOp .eql _ _ _ _, _, _, _, _⟩::_) _)); first | exact fun k => ws (eQ rfl rfl) k | exact fun k => ws (LR.eqlPtr U5 rfl) k | exact fun k => ws (LR.eqlH U5 rfl rfl) k | exact fun k => ws (LR.eqlBool U5 rfl rfl) k | exact fun k => ws (LR.eqlStr rfl rfl) k) | ((with_reducible show(_ → PWl _ _ _ _ (⟨_, .binOp .gtr _ _ _ _, _, _, _, _⟩::_) _)); first | exact fun k => ws (LR.gtr rfl rfl) k) | ((with_reducible show(_ → PWl _ _ _ _ (⟨_, .unOp .not _ _, _, _, _, _⟩::_) _)); first | exact fun k => ws (LR.not rfl) k) | ((with_reducible show(_ → PWl _ _ _ _ (⟨_, .binOp .sub _ _ _ _, _, _, _, _⟩::_) _)); first | exact fun k => ws (LR.subW rfl rfl) k) | ((with_reducible show(_ → PWl _ _ _ _ (⟨_, .binOp .shr _ _ _ _, _, _, _, _⟩::_) _)); first | exact fun k => ws (LR.shr rfl rfl (by decide) rfl) k) | ((with_reducible show(_ → PWl _ _ _ _ (⟨_, .slice _ _ _ _ _, _, _, _, _⟩::_) _)); first | exact fun k => ws (LR.sliceArr U5 Z5 rfl) k) | ((with_reducible show(_ → PWl _ _ _ _ (⟨_, .binOp .geq _ _ _ _, _, _, _, _⟩::_) _)); first | exact fun k => ws (LR.geq rfl rfl) k) | ((with_reducible show(_ → PWl _ _ _ _ (⟨_, .convert _ _ _, _, _, _, _⟩::_) _)); first | exact fun k => ws (LR.bytesStr U5 U5 U5 rfl) k) | ((with_reducible show(_ → PWl _ _ _ _ (⟨_, .call ⟨.builtin .max, _, _⟩, _, _, _, _⟩::_) _)); first | exact fun k => ws (LR.maxI rfl rfl) k) | ((with_reducible show(_ → PWl _ _ _ _ (⟨_, .buildSlice _ _ _, _, _, _, _⟩::_) _)); first | exact fun k => ws (LR.buildSlice [] E5 rfl rfl (.nil) (by decide) (by decide) rfl) k) | ((with_reducible show(_ → PWl _ _ _ _ (⟨_, .binOp .and _ _ _ _, _, _, _, _⟩::_) _)); first | exact fun k => ws (LR.and rfl rfl) k) | ((with_reducible show(_ → PWl _ _ _ _ (⟨_, .binOp .mul _ _ _ _, _, _, _, _⟩::_) _)); first | exact fun k => ws (LR.mulW rfl rfl) k) | ((with_reducible show(_ → PWl _ _ _ _ (⟨_, .binOp .shl _ _ _ _, _, _, _, _⟩::_) _)); first | exact fun k => ws (LR.shl rfl rfl (by decide) rfl) k) | ((with_reducible show(_ → PWl _ _ _ _ (⟨_, .binOp .or _ _ _ _, _, _, _, _⟩::_) _)); first | exact fun k => ws (LR.or rfl rfl) k))
  | ((with_reducible show(_ → PWl _ _ _ _ (⟨_, _, _, _, _, some _⟩::_) _)); first | exact fun k => wf k | exact fun k => wu k | ((with_reducible show(_ → PWl _ _ _ _ (⟨_, .load _ _, _, _, _, _⟩::_) _)); first | exact fun k => wt (lD I5 rfl rfl rfl) k | exact fun k => wt (LR.loadEp I5 rfl rfl) k | exact fun k => wt (lA (ps := [_, _]) I5 Z5 rfl rfl rfl rfl) k | exact fun k => wt (lA (ps := [_, _, _, _, _, _, _]) I5 Z5 rfl rfl rfl rfl) k | exact fun k => wt (lE (ys := [_, _]) I5 Z5 rfl rfl rfl) k) | ((with_reducible show(_ → PWl _ _ _ _ (⟨_, .fieldAddr _ _ _, _, _, _, _⟩::_) _)); first | exact fun k => wt (fR U5 rfl Z5 (by decide) rfl rfl) k | exact fun k => wt (fE U5 rfl Z5 (by decide) rfl rfl) k) | ((with_reducible show(_ → PWl _ _ _ _ (⟨_, .move _, _, _, _, _⟩::_) _)); first | exact fun k => wt (mV rfl) k) | ((with_reducible show(_ → PWl _ _ _ _ (⟨_, .call ⟨.builtin .len, _, _⟩, _, _, _, _⟩::_) _)); first | exact fun k => wt (lM U5 rfl) k | exact fun k => wt (LR.lenRow U5 rfl) k | exact fun k => wt (LR.lenStr U5 rfl) k) | ((with_reducible show(_ → PWl _ _ _ _ (⟨_, .binOp .gtr _ _ _ _, _, _, _, _⟩::_) _)); first | exact fun k => wt (LR.gtr rfl rfl) k) | ((with_reducible show(_ → PWl _ _ _ _ (⟨_, .unOp .not _ _, _, _, _, _⟩::_) _)); first | exact fun k => wt (LR.not rfl) k) | ((with_reducible show(_ → PWl _ _ _ _ (⟨_, .binOp .eql _ _ _ _, _, _, _, _⟩::_) _)); first | exact fun k => wt (eQ rfl rfl) k | exact fun k => wt (LR.eqlPtr U5 rfl) k | exact fun k => wt (LR.eqlStr rfl rfl) k) | ((with_reducible show(_ → PWl _ _ _ _ (⟨_, .binOp .neq _ _ _ _, _, _, _, _⟩::_) _)); first | exact fun k => wt (nQ rfl rfl) k | exact fun k => wt (LR.neqStr rfl rfl) k) | ((with_reducible show(_ → PWl _ _ _ _ (⟨_, .binOp .leq _ _ _ _, _, _, _, _⟩::_) _)); first | exact fun k => wt (LR.leq rfl rfl) k) | ((with_reducible show(_ → PWl _ _ _ _ (⟨_, .pick _ _ _, _, _, _, _⟩::_) _)); first | exact fun k => wt (pF rfl rfl) k | exact fun k => wt (pT rfl rfl) k) | ((with_reducible show(_ → PWl _ _ _ _ (⟨_, .nilCheck _, _, _, _, _⟩::_) _)); first | exact fun k => wt (LR.nilCheckRef rfl) k))
  | (show(_ → PWc _ _ _ _ _)); first | ((with_reducible show(_ → PWc _ _ (.seq _ _) _ _)); first | exact fun k => wQ k) | ((with_reducible show(_ → PWc _ _ (.region _ _ _) _ _)); first | exact fun k => wR k | exact fun k => wD (by kernel_rfl) (by kernel_rfl) k) | ((with_reducible show(_ → PWc _ _ .skip _ _)); first | exact fun k => wK k) | ((with_reducible show(_ → PWc _ _ (.block _ _) _ _)); first | exact fun k => wB k)
  | exact fun k => ws (LR.rangeN U5 rfl rfl rfl) k
  | exact fun k => ws (LR.capNil U5 rfl) k
  | exact fun k => ws (LR.sliceNil U5 Z5 rfl rfl) k) : p := h k
theorem h5{p q : Prop}(k : q)(h : q → p := by first
  | ((with_reducible show(_ → PQl _ _ _ _ [] _)); exact fun k => qN k)
  | ((with_reducible show(_ → PQl _ _ _ _ (⟨_, _, _, _, _, none⟩::_) _)); first | ((with_reducible show(_ → PQl _ _ _ _ (⟨_, .move _, _, _, _, _⟩::_) _)); first | exact fun k => qm k) | ((with_reducible show(_ → PQl _ _ _ _ (⟨_, .pick _ _ _, _, _, _, _⟩::_) _)); first | exact fun k => qs (fun _ U W => pF U U) k | exact fun k => qs (fun _ U W => pT U U) k) | ((with_reducible show(_ → PQl _ _ _ _ (⟨_, .load _ _, _, _, _, _⟩::_) _)); first | exact fun k => qs (fun _ U W => lD I5 U (W rfl) rfl) k | exact fun k => qs (fun _ U W => LR.loadEp I5 U rfl) k | exact fun k => qs (fun _ U W => lE (ys := [_, _]) I5 Z5 U rfl rfl) k | exact fun k => qs (fun _ U W => lA (ps := [_, _, _, _, _, _, _]) I5 Z5 U (W rfl) rfl rfl) k | exact fun k => qs (fun _ U W => lE (ys := [_, _, _]) I5 Z5 U rfl rfl) k | exact fun k => qs (fun _ U W => lE (ys := [_, _, _, _, _, _, _]) I5 Z5 U rfl rfl) k | exact fun k => qs (fun _ U W => lA (ps := [_, _]) I5 Z5 U (W rfl) rfl rfl) k) | ((with_reducible show(_ → PQl _ _ _ _ (⟨_, .assign _, _, _, _, _⟩::_) _)); first | exact fun k => qs (fun _ U W => aS U) k) | ((with_reducible show(_ → PQl _ _ _ _ (⟨_, .fieldAddr _ _ _, _, _, _, _⟩::_) _)); first | exact fun k => qs (fun _ U W => fR U5 rfl Z5 (by decide) rfl U) k | exact fun k => qs (fun _ U W => fE U5 rfl Z5 (by decide) rfl U) k) | ((with_reducible show(_ → PQl _ _ _ _ (⟨_, .binOp .geq _ _ _ _, _, _, _, _⟩::_) _)); first | exact fun k => qs (fun _ U W => LR.geq U U) k) | ((with_reducible show(_ → PQl _ _ _ _ (⟨_, .binOp .neq _ _ _ _, _, _, _, _⟩::_) _)); first | exact fun k => qs (fun _ U W => nQ U U) k) | ((with_reducible show(_ → PQl _ _ _ _ (⟨_, .binOp .eql _ _ _ _, _, _, _, _⟩::_) _)); first | exact fun k => qs (fun _ U W => eQ U U) k) | ((with_reducible show(_ → PQl _ _ _ _ (⟨_, .unOp .not _ _, _, _, _, _⟩::_) _)); first | exact fun k => qs (fun _ U W => LR.not U) k) | ((with_reducible show(_ → PQl _ _ _ _ (⟨_, .binOp .sub _ _ _ _, _, _, _, _⟩::_) _)); first | exact fun k => qs (fun _ U W => LR.subW U U) k) | ((with_reducible show(_ → PQl _ _ _ _ (⟨_, .binOp .gtr _ _ _ _, _, _, _, _⟩::_) _)); first | exact fun k => qs (fun _ U W => LR.gtr U U) k) | ((with_reducible show(_ → PQl _ _ _ _ (⟨_, .binOp .add _ _ _ _, _, _, _, _⟩::_) _)); first | exact fun k => qs (fun _ U W => LR.addW U U) k))
  | ((with_reducible show(_ → PQl _ _ _ _ (⟨_, _, _, _, _, some _⟩::_) _)); first | exact fun k => kF k | exact fun k => kU k | ((with_reducible show(_ → PQl _ _ _ _ (⟨_, .move _, _, _, _, _⟩::_) _)); first | exact fun k => qt (fun _ U W => mV U) k) | ((with_reducible show(_ → PQl _ _ _ _ (⟨_, .load _ _, _, _, _, _⟩::_) _)); first | exact fun k => qt (fun _ U W => lD I5 U (W rfl) rfl) k | exact fun k => qt (fun _ U W => LR.loadEp I5 U rfl) k | exact fun k => qt (fun _ U W => lA (ps := [_, _]) I5 Z5 U (W rfl) rfl rfl) k | exact fun k => qt (fun _ U W => lE (ys := [_, _]) I5 Z5 U rfl rfl) k) | ((with_reducible show(_ → PQl _ _ _ _ (⟨_, .fieldAddr _ _ _, _, _, _, _⟩::_) _)); first | exact fun k => qt (fun _ U W => fR U5 rfl Z5 (by decide) rfl U) k | exact fun k => qt (fun _ U W => fE U5 rfl Z5 (by decide) rfl U) k | exact fun k => qt (fun _ U W => LR.fieldRp U5 rfl Z5 (by decide) rfl U) k) | ((with_reducible show(_ → PQl _ _ _ _ (⟨_, .pick _ _ _, _, _, _, _⟩::_) _)); first | exact fun k => qt (fun _ U W => pT U U) k | exact fun k => qt (fun _ U W => pF U U) k) | ((with_reducible show(_ → PQl _ _ _ _ (⟨_, .binOp .eql _ _ _ _, _, _, _, _⟩::_) _)); first | exact fun k => qt (fun _ U W => eQ U U) k) | ((with_reducible show(_ → PQl _ _ _ _ (⟨_, .binOp .geq _ _ _ _, _, _, _, _⟩::_) _)); first | exact fun k => qt (fun _ U W => LR.geq U U) k) | ((with_reducible show(_ → PQl _ _ _ _ (⟨_, .binOp .gtr _ _ _ _, _, _, _, _⟩::_) _)); first | exact fun k => qt (fun _ U W => LR.gtr U U) k) | ((with_reducible show(_ → PQl _ _ _ _ (⟨_, .binOp .sub _ _ _ _, _, _, _, _⟩::_) _)); first | exact fun k => qt (fun _ U W => LR.subW U U) k) | ((with_reducible show(_ → PQl _ _ _ _ (⟨_, .unOp .not _ _, _, _, _, _⟩::_) _)); first | exact fun k => qt (fun _ U W => LR.not U) k) | ((with_reducible show(_ → PQl _ _ _ _ (⟨_, .nilCheck _, _, _, _, _⟩::_) _)); first | exact fun k => qt (fun _ U W => LR.nilCheckRef U) k) | ((with_reducible show(_ → PQl _ _ _ _ (⟨_, .binOp .neq _ _ _ _, _, _, _, _⟩::_) _)); first | exact fun k => qt (fun _ U W => nQ U U) k) | ((with_reducible show(_ → PQl _ _ _ _ (⟨_, .binOp .add _ _ _ _, _, _, _, _⟩::_) _)); first | exact fun k => qt (fun _ U W => LR.addW U U) k) | ((with_reducible show(_ → PQl _ _ _ _ (⟨_, .binOp .leq _ _ _ _, _, _, _, _⟩::_) _)); first | exact fun k => qt (fun _ U W => LR.leq U U) k))
  | ((with_reducible show(_ → PQe _ _ _ _ (⟨_, _, _, _, _, none⟩::_) _ _)); first | ((with_reducible show(_ → PQe _ _ _ _ (⟨_, .fieldAddr _ _ _, _, _, _, _⟩::_) _ _)); first | exact fun k => kp (fun _ U W => fR U5 rfl Z5 (by decide) rfl U) k | exact fun k => kp (fun _ U W => LR.fieldRp U5 rfl Z5 (by decide) rfl U) k) | ((with_reducible show(_ → PQe _ _ _ _ (⟨_, .load _ _, _, _, _, _⟩::_) _ _)); first | exact fun k => kp (fun _ U W => lD I5 U (W rfl rfl) rfl) k | exact fun k => kp (fun _ U W => lA (ps := [_, _, _, _, _, _, _]) I5 Z5 U (W rfl rfl) rfl rfl) k | exact fun k => kp (fun _ U W => lA (ps := [_, _]) I5 Z5 U (W rfl rfl) rfl rfl) k | exact fun k => kp (fun _ U W => lA (ps := [_, _, _]) I5 Z5 U (W rfl rfl) rfl rfl) k) | ((with_reducible show(_ → PQe _ _ _ _ (⟨_, .move _, _, _, _, _⟩::_) _ _)); first | exact fun k => km k) | ((with_reducible show(_ → PQe _ _ _ _ (⟨_, .nilCheck _, _, _, _, _⟩::_) _ _)); first | exact fun k => kp (fun _ U W => LR.nilCheckRef U) k) | ((with_reducible show(_ → PQe _ _ _ _ (⟨_, .store _ _ _, _, _, _, _⟩::_) _ _)); first | exact fun k => ks (fun _ U W => sB (ns := [_, _, _]) Z5 U U rfl rfl (W rfl rfl) rfl rfl) k | exact fun k => ks (fun _ U W => sB (ns := [_, _, _, _, _, _, _]) Z5 U U rfl rfl (W rfl rfl) rfl rfl) k | exact fun k => ks (fun _ U W => sB (ns := [_, _]) Z5 U U rfl rfl (W rfl rfl) rfl rfl) k) | ((with_reducible show(_ → PQe _ _ _ _ (⟨_, .assign _, _, _, _, _⟩::_) _ _)); first | exact fun k => kp (fun _ U W => aS U) k) | ((with_reducible show(_ → PQe _ _ _ _ (⟨_, .call ⟨.builtin .max, _, _⟩, _, _, _, _⟩::_) _ _)); first | exact fun k => kp (fun _ U W => LR.maxI U U) k))) : p := h k
end Go.Proofs
namespace Go.Ep
def zn(x y:DT):Bool:=decide (x.dev < y.dev)||(decide (x.dev=y.dev)&&decide (x.n < y.n))
def Us(x y:RN):Bool:=decide (x.lo < y.lo)
def jM(x y:PT):Bool:=decide (x.dev < y.dev)
def Xi(x y:EV):Bool:=decide (x.dot.dev < y.dot.dev)||(decide (x.dot.dev=y.dot.dev)&&decide (x.dot.n < y.dot.n))
def xV(x y:TMember):Bool:=decide (x.dev < y.dev)
end Go.Ep
namespace Go.Ep
open Go
def Yw(c1:List PT):Int->M (M.Step Int (M.Ex Unit Bool)):=fun i12=>
 cond ((decide (i12 < (c1.length:Int))))
  (M.bind (M.idx c1 i12) fun x14=>
  cond ((decide (30 < (x14.runs.length:Int))))
   (M.pure (.done (.ret false)))
   (M.pure (.next (IntKind.i64.wrap (i12+1)))))
  (M.pure (.done (.brk ())))
def UA(c1:List PT):M Bool:=
 cond ((decide (30 < (c1.length:Int))))
  (M.pure false)
  (M.bind (M.loop (Yw c1) 0) (M.exk (fun _=>
  M.pure true)))
def Yx(l1:List EV):Int->M (M.Step Int (M.Ex Unit Bool)):=fun i21=>
 cond ((decide (i21 < (l1.length:Int))))
  (M.bind (M.bind (M.idx l1 i21) fun x24=>
  cond ((decide (300 < (x24.kills.length:Int))))
   (M.pure true)
   (M.bind (M.idx l1 i21) fun x27=>
   M.pure ((decide (200 < (ByteArray.size x27.text:Int)))))) (fun v23=>
  cond v23
   (M.pure (.done (.ret false)))
   (M.pure (.next (IntKind.i64.wrap (i21+1))))))
  (M.pure (.done (.brk ())))
def jt(l1:List EV)(most2:Int):M Bool:=
 cond ((decide (most2 < (l1.length:Int))))
  (M.pure false)
  (M.bind (M.loop (Yx l1) 0) (M.exk (fun _=>
  M.pure true)))
def jN(s1:THubState):Int->M (M.Step Int (M.Ex Unit Bool)):=fun i25=>
 cond ((decide (i25 < (s1.rows.length:Int))))
  (M.bind (M.idx s1.rows i25) fun x27=>
  M.bind (M.det (UA x27.have_)) fun v29=>
  cond (!v29)
   (M.pure (.done (.ret false)))
   (M.pure (.next (IntKind.i64.wrap (i25+1)))))
  (M.pure (.done (.brk ())))
def ju(s1:THubState):M Bool:=
 M.bind (cond ((decide (20 < (s1.members.length:Int))))
  (M.pure true)
  (cond ((decide (40 < (s1.tries.length:Int))))
   (M.pure true)
   (cond ((decide (20 < (s1.rows.length:Int))))
    (M.pure true)
    (M.bind (M.det (UA s1.ctx)) fun v6=>
    cond (!v6)
     (M.pure true)
     (M.bind (M.det (jt s1.all 30)) fun v9=>
     M.pure (!v9)))))) (fun v2=>
 cond v2
  (M.pure false)
  (M.bind (M.loop (jN s1) 0) (M.exk (fun _=>
  M.pure true))))
def wV(x1:Int):M Bool:=
 M.pure (!decide (x1=x1))
def yi(x1:Int)(y2:Int):M Int:=
 M.bind (M.det (wV x1)) fun v3=>
 M.bind (M.det (wV y2)) fun v5=>
 cond v3
  (cond v5
   (M.pure 0)
   (M.pure (-1)))
  (cond v5
   (M.pure 1)
   (cond (decide (x1 < y2))
    (M.pure (-1))
    (cond (decide (y2 < x1))
     (M.pure 1)
     (M.pure 0))))
def vY(l1:List RN):Int×List RN->M (M.Step (Int×List RN) (List RN)):=fun⟨v23,some24⟩=>
 cond ((decide (v23 < (l1.length:Int))))
  (M.bind (M.bind (M.idx l1 v23) fun x27=>
  M.bind (cond (decide (0 < x27.lo))
   (cond (decide (x27.lo<=x27.hi))
    (M.pure (decide (x27.hi<=281474976710655)))
    (M.pure false))
   (M.pure false)) (fun v29=>
  cond v29
   (M.yb ((some24.length+List.length ([x27]))*16<=140737488355328) <|
   M.pure (some24++[x27]))
   (M.pure some24))) (fun some26=>
  M.pure (.next (((IntKind.i64.wrap (v23+1)),some26)))))
  (M.pure (.done some24))
def vZ(some2:List RN)(s34:List RN):Int×List RN->M (M.Step (Int×List RN) (List RN)):=fun⟨v69,out70⟩=>
 cond ((decide (v69 < ((some2.length):Int))))
  (M.bind (M.bind (M.idx s34 v69) fun x73=>
  M.bind (cond ((decide (0<=((IntKind.i64.wrap (((out70.length):Int) - 1))))))
   (M.bind (M.idx out70 ((IntKind.i64.wrap (((out70.length):Int) - 1)))) fun x77=>
   M.pure ((decide (x73.lo<=(IntKind.u64.wrap (x77.hi+1))))))
   (M.pure false)) (fun v75=>
  cond v75
   (M.bind (M.idx out70 ((IntKind.i64.wrap (((out70.length):Int) - 1)))) fun x80=>
   M.bind (M.idx out70 ((IntKind.i64.wrap (((out70.length):Int) - 1)))) fun x82=>
   M.pure ((List.set out70 ((Int.toNat ((IntKind.i64.wrap (((out70.length):Int) - 1))))) (⟨x82.lo,(max x80.hi x73.hi)⟩:RN))))
   (M.yb ((out70.length+List.length ([x73]))*16<=140737488355328) <|
   M.pure (out70++[x73])))) (fun out72=>
  M.pure (.next (((IntKind.i64.wrap (v69+1)),out72)))))
  (M.pure (.done out70))
def va(l1:List RN):M (List RN):=
 M.bind (M.loop (vY l1) (0,([]:List RN))) (fun some2=>
 M.yb (some2.length < 4611686018427387904)<|M.bind (M.srt Us some2) fun s34=>
 M.bind (M.loop (vZ some2 s34) (0,([]:List RN))) (fun out38=>
 M.pure out38))
def wW(x1:Int):M Bool:=
 M.pure (!decide (x1=x1))
def xW(x1:Int)(y2:Int):M Int:=
 M.bind (M.det (wW x1)) fun v3=>
 M.bind (M.det (wW y2)) fun v5=>
 cond v3
  (cond v5
   (M.pure 0)
   (M.pure (-1)))
  (cond v5
   (M.pure 1)
   (cond (decide (x1 < y2))
    (M.pure (-1))
    (cond (decide (y2 < x1))
     (M.pure 1)
     (M.pure 0))))
def ZA(m1:List (Int×List RN)):List Nat×List PT->M (M.Step (List Nat×List PT) (List PT)):=fun⟨seen28,c29⟩=>
 M.yb (∀ i∈seen28,i < m1.length)<|M.bind (M.nxt (m1.length) seen28) fun o=>match o with
 | none=>
  M.pure (.done c29)
 | some j30=>
  M.bind (M.idx m1 (Int.ofNat j30)) fun kv34=>
  M.bind (M.det (va kv34.2)) fun v36=>
  cond ((decide (0 < ((v36.length):Int))))
   (M.yb ((c29.length+List.length ([(⟨kv34.1,v36⟩:PT)]))*32<=140737488355328) <|
   M.pure (.next (((seen28++[j30]),(c29++[(⟨kv34.1,v36⟩:PT)])))))
   (M.pure (.next ((seen28++[j30]),c29)))
def YQ(m1:List (Int×List RN)):M (List PT):=
 M.bind (M.loop (ZA m1) ([],([]:List PT))) (fun c3=>
 M.yb (c3.length < 4611686018427387904)<|M.bind (M.srt jM c3) fun s41=>
 M.pure s41)
def zp(p:PT):Option (Int×List RN):=if 0 < p.dev then some (p.dev,p.runs) else none
def WC(c1:List PT):M (List (Int×List RN)):=
 M.yb (AL.growOK 16 (c1.length) (List.filterMap zp c1)) <|
 M.pure ((AL.grow ([]:List (Int×List RN)) (List.filterMap zp c1)))
def vS(c1:List PT):M (List PT):=
 M.bind (M.det (WC c1)) fun v2=>
 M.bind (M.det (YQ v2)) fun v5=>
 M.pure v5
def uv(s1_1:List RN)(s2_2:List RN):Int->M (M.Step Int (M.Ex Unit Bool)):=fun v17=>
 cond ((decide (v17 < (s1_1.length:Int))))
  (M.bind (M.idx s1_1 v17) fun x19=>
  M.bind (M.idx s2_2 v17) fun x21=>
  cond ((!(decide (x19.lo=x21.lo)&&decide (x19.hi=x21.hi))))
   (M.pure (.done (.ret false)))
   (M.pure (.next (IntKind.i64.wrap (v17+1)))))
  (M.pure (.done (.brk ())))
def yT(s1_1:List RN)(s2_2:List RN):M Bool:=
 cond ((!decide ((s1_1.length:Int)=(s2_2.length:Int))))
  (M.pure false)
  (M.bind (M.loop (uv s1_1 s2_2) 0) (M.exk (fun _=>
  M.pure true)))
def UB(x1:PT)(y2:PT):M Bool:=
 M.bind (cond (decide (x1.dev=y2.dev))
  (M.bind (M.det (yT x1.runs y2.runs)) fun v5=>
  M.pure v5)
  (M.pure false)) (fun v3=>
 M.pure v3)
def zW(s1_1:List PT)(s2_2:List PT):Int->M (M.Step Int (M.Ex Unit Bool)):=fun v21=>
 cond ((decide (v21 < (s1_1.length:Int))))
  (M.bind (M.idx s1_1 v21) fun x23=>
  M.bind (M.idx s2_2 v21) fun x25=>
  M.bind (M.det (UB x23 x25)) fun v27=>
  cond (!v27)
   (M.pure (.done (.ret false)))
   (M.pure (.next (IntKind.i64.wrap (v21+1)))))
  (M.pure (.done (.brk ())))
def zY(s1_1:List PT)(s2_2:List PT):M Bool:=
 cond ((!decide ((s1_1.length:Int)=(s2_2.length:Int))))
  (M.pure false)
  (M.bind (M.loop (zW s1_1 s2_2) 0) (M.exk (fun _=>
  M.pure true)))
def z0a(a1:List PT)(b2:List PT):M Bool:=
 M.bind (M.det (zY a1 b2)) fun v3=>
 M.pure v3
def uA(c1:List PT):M Bool:=
 M.bind (M.det (vS c1)) fun v2=>
 M.bind (M.det (z0a c1 v2)) fun v4=>
 M.pure v4
def uX(a1:DT)(b2:DT):M Int:=
 M.bind (M.det (xW a1.dev b2.dev)) fun v3=>
 cond (!decide (v3=0))
  (M.pure v3)
  (M.bind (M.det (yi a1.n b2.n)) fun v6=>
  M.pure v6)
def ZB(d1:DT):M Bool:=
 M.bind (cond (decide (0 < d1.dev))
  (cond (decide (0 < d1.n))
   (M.pure (decide (d1.n<=281474976710655)))
   (M.pure false))
  (M.pure false)) (fun v2=>
 M.pure v2)
def Zl(v1:Int):M (Int×Int):=
 M.pure (((IntKind.u16.wrap (Int.fdiv v1 (2 ^ 48))),(bAnd .u64 v1 281474976710655)))
def Yy(v1:Int):M (DT×Bool):=
 M.bind (M.det (Zl v1)) fun v2=>
 M.bind (M.det (ZB (⟨v2.1,v2.2⟩:DT))) fun v4=>
 cond (!v4)
  (M.pure ((⟨0,0⟩:DT),false))
  (M.pure ((⟨v2.1,v2.2⟩:DT),true))
def Yz(f1:Int):M Bool:=
 M.bind (cond (decide (1<=f1))
  (M.pure (decide (f1<=5)))
  (M.pure false)) (fun v2=>
 M.pure v2)
def wi(s1:ByteArray):Int->M (M.Step Int (M.Ex Unit Bool)):=fun v20=>
 cond ((decide (v20 < (ByteArray.size s1:Int))))
  (M.bind (M.bind (M.idx (yJ s1) v20) fun b23=>
  cond (decide (b23 < 32))
   (M.pure true)
   (M.bind (M.idx (yJ s1) v20) fun b26=>
   M.pure (decide (126 < b26)))) (fun v22=>
  cond v22
   (M.pure (.done (.ret false)))
   (M.pure (.next (IntKind.i64.wrap (v20+1))))))
  (M.pure (.done (.brk ())))
def XA(s1:ByteArray):M Bool:=
 cond ((decide (60 < (ByteArray.size s1:Int))))
  (M.pure false)
  (M.bind (M.loop (wi s1) 0) (M.exk (fun _=>
  M.pure true)))
def yj(l1:List DT):Int->M (M.Step Int (M.Ex Unit Bool)):=fun v23=>
 cond ((decide (v23 < (l1.length:Int))))
  (M.bind (cond (decide (0 < v23))
   (M.bind (M.idx l1 (IntKind.i64.wrap (v23 - 1))) fun x27=>
   M.bind (M.idx l1 v23) fun x29=>
   M.bind (M.det (uX x27 x29)) fun v31=>
   M.pure (decide (0<=v31)))
   (M.pure false)) (fun v25=>
  cond v25
   (M.pure (.done (.ret false)))
   (M.pure (.next (IntKind.i64.wrap (v23+1))))))
  (M.pure (.done (.brk ())))
def XB(l1:List DT):M Bool:=
 M.bind (M.loop (yj l1) 0) (M.exk (fun _=>
 M.pure true))
def wj(e1:EV):Int->M (M.Step Int (M.Ex Unit Bool)):=fun v43=>
 cond ((decide (v43 < (e1.kills.length:Int))))
  (M.bind (M.idx e1.kills v43) fun x45=>
  M.bind (M.bind (M.det (ZB x45)) fun v48=>
  cond (!v48)
   (M.pure true)
   (M.pure (((decide (x45.dev=e1.dot.dev)&&decide (x45.n=e1.dot.n)))))) (fun v47=>
  cond v47
   (M.pure (.done (.ret false)))
   (M.pure (.next (IntKind.i64.wrap (v43+1))))))
  (M.pure (.done (.brk ())))
def uN(e1:EV):M Bool:=
 M.bind (M.det (Yy e1.cid)) fun v2=>
 M.bind (cond (!v2.2)
  (M.pure true)
  (M.bind (M.det (ZB e1.dot)) fun v6=>
  M.pure (!v6))) (fun v4=>
 cond v4
  (M.pure false)
  (M.bind (cond (decide (e1.kind=1))
   (M.bind (M.bind (M.det (Yz e1.field)) fun v11=>
   cond (!v11)
    (M.pure true)
    (M.bind (M.det (XA e1.text)) fun v14=>
    M.pure (!v14))) (fun v10=>
   cond v10
    (M.pure (.ret false))
    (M.pure (.brk ()))))
   (cond (decide (e1.kind=2))
    (M.bind (cond (!decide (e1.field=0))
     (M.pure true)
     (M.pure ((!decide (e1.text=(⟨#[]⟩:ByteArray)))))) (fun v18=>
    cond v18
     (M.pure (.ret false))
     (M.pure (.brk ()))))
    (M.pure (.ret false)))) (M.exk (fun _=>
  M.bind (cond ((decide (256 < (e1.kills.length:Int))))
   (M.pure true)
   (M.bind (M.det (XB e1.kills)) fun v23=>
   M.pure (!v23))) (fun v21=>
  cond v21
   (M.pure false)
   (M.bind (M.loop (wj e1) 0) (M.exk (fun _=>
   M.pure true))))))))
def yI(s1:List DT)(v2:DT):Int->M (M.Step Int (M.Ex Unit Int)):=fun v12=>
 cond ((decide (v12 < (s1.length:Int))))
  (M.bind (M.idx s1 v12) fun x14=>
  cond (((decide (v2.dev=x14.dev)&&decide (v2.n=x14.n))))
   (M.pure (.done (.ret v12)))
   (M.pure (.next (IntKind.i64.wrap (v12+1)))))
  (M.pure (.done (.brk ())))
def xF(s1:List DT)(v2:DT):M Int:=
 M.bind (M.loop (yI s1 v2) 0) (M.exk (fun _=>
 M.pure (-1)))
def yd(s1:List DT)(v2:DT):M Bool:=
 M.bind (M.det (xF s1 v2)) fun v3=>
 M.pure (decide (0<=v3))
def jv(l1:List DT)(d2:DT):M Bool:=
 M.bind (M.det (yd l1 d2)) fun v3=>
 M.pure v3
def Xj(e1:EV)(d2:DT):M Bool:=
 M.bind (M.det (jv e1.kills d2)) fun v3=>
 M.pure v3
def uB(l1:List EV)(d2:DT):Int->M (M.Step Int (M.Ex Unit Bool)):=fun v16=>
 cond ((decide (v16 < (l1.length:Int))))
  (M.bind (M.idx l1 v16) fun x18=>
  M.bind (M.det (Xj x18 d2)) fun v20=>
  cond v20
   (M.pure (.done (.ret true)))
   (M.pure (.next (IntKind.i64.wrap (v16+1)))))
  (M.pure (.done (.brk ())))
def vI(l1:List EV)(d2:DT):M Bool:=
 M.bind (M.loop (uB l1 d2) 0) (M.exk (fun _=>
 M.pure false))
def yD(s1:List DT):M (List DT):=
 M.bind (M.isNil s1) fun b2=>
 cond b2
  (M.pure ([]:List DT))
  (M.yb ((List.length ([]:List DT)+s1.length)*16<=140737488355328) <|
  M.pure (([]:List DT)++s1))
def xM(e1:EV):M EV:=
 M.bind (M.det (yD e1.kills)) fun v2=>
 M.pure (⟨e1.dot,e1.kind,e1.cid,e1.field,e1.text,v2⟩:EV)
def zi(row1:List DT)(k148:Int):Int×Int×List DT->M (M.Step (Int×Int×List DT) (Int×List DT)):=fun⟨k197,k2_198,v199⟩=>
 cond ((decide (k2_198 < ((((row1.length - Int.toNat k148):Nat):Int)))))
  (M.bind (M.yb ((0:Int)<=k2_198/\k2_198 < (((row1.length - Int.toNat k148):Nat):Int))<|M.bind (M.idx v199 ((((Int.toNat k148)+Int.toNat k2_198):Nat):Int)) fun x203=>
  M.yb ((0:Int)<=(IntKind.i64.wrap (k2_198 - 1))/\(IntKind.i64.wrap (k2_198 - 1)) < (((row1.length - Int.toNat k148):Nat):Int))<|M.bind (M.idx v199 ((((Int.toNat k148)+Int.toNat (IntKind.i64.wrap (k2_198 - 1))):Nat):Int)) fun x207=>
  cond ((!(decide (x203.dev=x207.dev)&&decide (x203.n=x207.n))))
   (M.yb ((0:Int)<=k2_198/\k2_198 < (((row1.length - Int.toNat k148):Nat):Int))<|M.bind (M.idx v199 ((((Int.toNat k148)+Int.toNat k2_198):Nat):Int)) fun x212=>
   M.bind (M.idx v199 k197) fun x216=>
   M.pure (((IntKind.i64.wrap (k197+1)),(List.set v199 (Int.toNat k197) x212))))
   (M.pure (k197,v199))) (fun⟨k201,v202⟩=>
  M.pure (.next ((k201,(IntKind.i64.wrap (k2_198+1)),v202)))))
  (M.pure (.done (k197,v199)))
def zj(row1:List DT):Int->M (M.Step Int (M.Ex Unit (List DT))):=fun k148=>
 cond ((decide (k148 < ((row1.length):Int))))
  (M.bind (M.bind (M.idx row1 k148) fun x150=>
  M.bind (M.idx row1 (IntKind.i64.wrap (k148 - 1))) fun x152=>
  cond (((decide (x150.dev=x152.dev)&&decide (x150.n=x152.n))))
   (M.yb ((0:Int)<=k148/\k148<=(row1.length:Int)) <|
   M.bind (M.loop (zi row1 k148) (k148,1,row1)) (fun⟨k156,v157⟩=>
   M.yb ((0:Int)<=k156/\k156<=(v157.length:Int)) <|
   M.yb ((Int.toNat k156)+(v157.length - Int.toNat k156)<=v157.length) <|
   M.yb ((0:Int)<=0/\(0:Int)<=k156/\k156<=(List.length ((List.take (Int.toNat k156) v157++List.replicate (v157.length - Int.toNat k156) (⟨0,0⟩:DT)++List.drop ((Int.toNat k156)+(v157.length - Int.toNat k156)) v157)):Int)) <|
   M.pure (.ret ((.done ((.ret (((List.take (Int.toNat k156) ((List.take (Int.toNat k156) v157++List.replicate (v157.length - Int.toNat k156) (⟨0,0⟩:DT)++List.drop ((Int.toNat k156)+(v157.length - Int.toNat k156)) v157))))))))))))
   (M.pure (.brk ()))) (M.exk (fun _=>
  M.pure (.next (IntKind.i64.wrap (k148+1))))))
  (M.pure (.done (.brk ())))
def zq(row1:List DT):M (List DT):=
 cond ((decide (((row1.length):Int) < 2)))
  (M.pure row1)
  (M.bind (M.loop (zj row1) 1) (M.exk (fun _=>
  M.pure row1)))
def XC(l1:List DT):M (List DT):=
 M.bind (M.det (yD l1)) fun v2=>
 M.yb (v2.length < 4611686018427387904)<|M.bind (M.srt zn v2) fun s4=>
 M.bind (M.det (zq s4)) fun y8=>
 M.pure y8
def uY(x1:RN)(n2:Int):M Int:=
 M.bind (M.det (yi x1.hi n2)) fun v3=>
 M.pure v3
def zX(x1:List RN)(target2:Int):Int×Int->M (M.Step (Int×Int) Int):=fun⟨i18,j19⟩=>
 cond (decide (i18 < j19))
  (M.bind (M.idx x1 ((IntKind.i64.wrap ((Int.fdiv ((IntKind.u64.wrap (IntKind.i64.wrap (i18+j19)))) (2 ^ 1)))))) fun x21=>
  M.bind (M.det (uY x21 target2)) fun v23=>
  cond (decide (v23 < 0))
   (M.pure (.next (((IntKind.i64.wrap (((IntKind.i64.wrap ((Int.fdiv ((IntKind.u64.wrap (IntKind.i64.wrap (i18+j19)))) (2 ^ 1)))))+1)),j19))))
   (M.pure (.next ((i18,(IntKind.i64.wrap ((Int.fdiv ((IntKind.u64.wrap (IntKind.i64.wrap (i18+j19)))) (2 ^ 1)))))))))
  (M.pure (.done i18))
def zQ(x1:List RN)(target2:Int):M (Int×Bool):=
 M.bind (M.loop (zX x1 target2) (0,(x1.length:Int))) (fun i3=>
 M.bind (cond ((decide (i3 < (x1.length:Int))))
  (M.bind (M.idx x1 i3) fun x28=>
  M.bind (M.det (uY x28 target2)) fun v30=>
  M.pure (decide (v30=0)))
  (M.pure false)) (fun v26=>
 M.pure (i3,v26)))
def VT(l1:List RN)(n2:Int):M Bool:=
 M.bind (M.det (va l1)) fun v3=>
 M.bind (M.det (zQ v3 n2)) fun v5=>
 M.bind (cond ((decide (v5.1 < (v3.length:Int))))
  (M.bind (M.idx v3 v5.1) fun x9=>
  M.pure (decide (x9.lo<=n2)))
  (M.pure false)) (fun v7=>
 M.pure v7)
def VU(c1:List PT)(dev2:Int):M (List RN):=
 M.bind (M.det (WC c1)) fun v3=>
 M.bind (M.det (va (AL.getZ v3 dev2 ([]:List RN)))) fun v6=>
 M.pure v6
def UC(c1:List PT)(d2:DT):M Bool:=
 M.bind (cond (decide (0 < d2.dev))
  (M.bind (M.det (VU c1 d2.dev)) fun v5=>
  M.bind (M.det (VT v5 d2.n)) fun v7=>
  M.pure v7)
  (M.pure false)) (fun v3=>
 M.pure v3)
def uC(l1:List DT)(c2:List PT)(has3:Bool):Int×List DT->M (M.Step (Int×List DT) (List DT)):=fun⟨v23,out24⟩=>
 cond ((decide (v23 < (l1.length:Int))))
  (M.bind (M.bind (M.idx l1 v23) fun x27=>
  M.bind (M.det (UC c2 x27)) fun v29=>
  cond (v29==has3)
   (M.yb ((out24.length+List.length ([x27]))*16<=140737488355328) <|
   M.pure (out24++[x27]))
   (M.pure out24)) (fun out26=>
  M.pure (.next (((IntKind.i64.wrap (v23+1)),out26)))))
  (M.pure (.done out24))
def Wf(l1:List DT)(c2:List PT)(has3:Bool):M (List DT):=
 M.bind (M.loop (uC l1 c2 has3) (0,([]:List DT))) (fun out4=>
 M.bind (M.det (XC out4)) fun v33=>
 M.pure v33)
def XD(l1:List DT)(c2:List PT):M (List DT):=
 M.bind (M.det (Wf l1 c2 false)) fun v3=>
 M.pure v3
def uD(l1:List EV):Int×List DT->M (M.Step (Int×List DT) (List DT)):=fun⟨v15,out16⟩=>
 cond ((decide (v15 < (l1.length:Int))))
  (M.bind (M.idx l1 v15) fun x18=>
  M.yb ((out16.length+List.length ([x18.dot]))*16<=140737488355328) <|
  M.yb ((List.length (out16++[x18.dot])+x18.kills.length)*16<=140737488355328) <|
  M.pure (.next (((IntKind.i64.wrap (v15+1)),((out16++[x18.dot])++x18.kills)))))
  (M.pure (.done out16))
def XE(l1:List EV):M (List DT):=
 M.bind (M.loop (uD l1) (0,([]:List DT))) (fun out2=>
 M.bind (M.det (XC out2)) fun v22=>
 M.pure v22)
def yM(n1:Int):M (List PT):=
 cond (decide (n1 < 0))
  M.fail
  (M.bind (cond ((decide (0 < ((IntKind.i64.wrap (n1 - (IntKind.i64.wrap (0 - 0))))))))
   (M.yb (0 < ((IntKind.i64.wrap (n1 - (IntKind.i64.wrap (0 - 0)))))/\((IntKind.i64.wrap (n1 - (IntKind.i64.wrap (0 - 0)))))*32<=140737488355328) <|
   M.yb ((0:Int)<=0/\(0:Int)<=0/\0<=(List.length ((List.replicate (Int.toNat ((IntKind.i64.wrap (n1 - (IntKind.i64.wrap (0 - 0)))))) (⟨0,([]:List RN)⟩:PT))):Int)) <|
   M.pure ((List.take (Int.toNat 0) ((List.replicate (Int.toNat ((IntKind.i64.wrap (n1 - (IntKind.i64.wrap (0 - 0)))))) (⟨0,([]:List RN)⟩:PT))))))
   (M.pure ([]))) (fun v3=>
  M.pure v3))
def zc(slices1:List (List PT)):Int×Int->M (M.Step (Int×Int) Int):=fun⟨size13,v14⟩=>
 cond ((decide (v14 < (slices1.length:Int))))
  (M.bind (M.idx slices1 v14) fun x16=>
  cond ((decide (((IntKind.i64.wrap (size13+(x16.length:Int)))) < 0)))
   M.fail
   (M.pure (.next (((IntKind.i64.wrap (size13+(x16.length:Int))),(IntKind.i64.wrap (v14+1)))))))
  (M.pure (.done size13))
def zd(slices1:List (List PT)):Int×List PT->M (M.Step (Int×List PT) (List PT)):=fun⟨v32,v33⟩=>
 cond ((decide (v32 < (slices1.length:Int))))
  (M.bind (M.idx slices1 v32) fun x35=>
  M.yb ((v33.length+x35.length)*32<=140737488355328) <|
  M.pure (.next (((IntKind.i64.wrap (v32+1)),(v33++x35)))))
  (M.pure (.done v33))
def yZ(slices1:List (List PT)):M (List PT):=
 M.bind (M.loop (zc slices1) (0,0)) (fun size2=>
 M.bind (M.det (yM size2)) fun v19=>
 M.bind (M.loop (zd slices1) (0,v19)) (fun v21=>
 M.pure v21))
def VV(a1:List PT)(b2:List PT):M (List PT):=
 M.bind (M.det (yZ ([a1,b2]))) fun v3=>
 M.bind (M.det (vS v3)) fun v5=>
 M.pure v5
def vb :M (Int×Int×A16×Bool×(List (Int×TMember))):=
 M.pure ((1,0,(0,0,0,0,0,0,0,0,0,0,0,0,0,0,0,0),false,([]:List (Int×TMember))))
def zr(epoch_1:Int)(last_2:Int)(c3:A16)(nl4:Bool)(m5:List (Int×TMember)):M Bool:=
 M.pure (decide (epoch_1=0))
def xv(m5:List (Int×TMember)):List Nat×List TMember->M (M.Step (List Nat×List TMember) (List TMember)):=fun⟨seen29,out30⟩=>
 M.yb (∀ i∈seen29,i < m5.length)<|M.bind (M.nxt (m5.length) seen29) fun o=>match o with
 | none=>
  M.pure (.done out30)
 | some j31=>
  M.bind (M.idx m5 (Int.ofNat j31)) fun kv35=>
  M.yb ((out30.length+List.length ([kv35.2]))*16<=140737488355328) <|
  M.pure (.next ((seen29++[j31]),(out30++[kv35.2])))
def yE(epoch_1:Int)(last_2:Int)(c3:A16)(nl4:Bool)(m5:List (Int×TMember)):M (List TMember):=
 M.bind (M.det (zr epoch_1 last_2 c3 nl4 m5)) fun y6=>
 cond y6
  (M.pure ([]:List TMember))
  (M.bind (M.loop (xv m5) ([],([]:List TMember))) (fun out10=>
  M.yb (out10.length < 4611686018427387904)<|M.bind (M.srt xV out10) fun s39=>
  M.pure s39))
def YR(y7:List TMember)(slot1:Int):Int->M (M.Step Int (M.Ex Unit (TMember×Bool))):=fun v18=>
 cond ((decide (v18 < (y7.length:Int))))
  (M.bind (M.idx y7 v18) fun x20=>
  cond (decide (x20.slot=slot1))
   (M.pure (.done (.ret (x20,true))))
   (M.pure (.next (IntKind.i64.wrap (v18+1)))))
  (M.pure (.done (.brk ())))
def yk(slot1:Int)(epoch_2:Int)(last_3:Int)(c4:A16)(nl5:Bool)(m6:List (Int×TMember)):M (TMember×Bool):=
 M.bind (M.det (yE epoch_2 last_3 c4 nl5 m6)) fun y7=>
 M.bind (M.loop (YR y7 slot1) 0) (M.exk (fun _=>
 M.pure ((⟨0,0,0⟩:TMember),false)))
def vl(members3:List TMember)(last2:Int)(y9:Int×Int×A16×Bool×(List (Int×TMember)))(tries4:List Int)(epoch1:Int):Int×(List (Int×TMember))->M (M.Step (Int×(List (Int×TMember))) (M.Ex (List (Int×TMember)) (Unit⊕(Int×Int×A16×Bool×(List (Int×TMember)))))):=fun⟨v52,v53⟩=>
 cond ((decide (v52 < (members3.length:Int))))
  (M.bind (M.idx members3 v52) fun x55=>
  M.bind (cond (decide (x55.dev=0))
   (M.pure true)
   (cond (decide (last2 < x55.dev))
    (M.pure true)
    (cond (decide (0 < v52))
     (M.bind (M.idx members3 (IntKind.i64.wrap (v52 - 1))) fun x61=>
     M.pure (decide (x55.dev<=x61.dev)))
     (M.pure false)))) (fun v57=>
  cond v57
   (M.pure (.done ((.ret (.inl ())))))
   (M.bind (cond (decide (16<=x55.slot))
    (M.pure true)
    (cond (decide (x55.try_=0))
     (M.pure true)
     (M.yb ((0:Int)<=x55.slot/\x55.slot < ((16:Nat):Int)) <|
     M.pure ((!decide ((AR.get (AR.over y9.2.2.1 tries4) (Int.toNat x55.slot))=x55.try_)))))) (fun v64=>
   cond v64
    (M.pure (.done ((.ret (.inl ())))))
    (M.bind (M.det (yk x55.slot epoch1 last2 (AR.over y9.2.2.1 tries4) y9.2.2.2.1 v53)) fun y69=>
    cond y69.2
     (M.pure (.done ((.ret (.inl ())))))
     (M.yb (y9.2.2.2.1=false) <|
     M.pure (.next (((IntKind.i64.wrap (v52+1)),(AL.set v53 x55.dev x55))))))))))
  (M.pure (.done (.brk v53)))
def wk(epoch1:Int)(last2:Int)(members3:List TMember)(tries4:List Int):M (Unit⊕(Int×Int×A16×Bool×(List (Int×TMember)))):=
 M.bind (cond (decide (epoch1=0))
  (M.pure true)
  (cond (decide (281474976710655 < epoch1))
   (M.pure true)
   (M.pure ((!decide ((tries4.length:Int)=16)))))) (fun v5=>
 cond v5
  (M.pure (.inl ()))
  (M.bind (M.det (vb)) fun y9=>
  M.bind (M.loop (vl members3 last2 y9 tries4 epoch1) (0,y9.2.2.2.2)) (M.exk (fun v11=>
  M.pure (.inr (epoch1,last2,(AR.over y9.2.2.1 tries4),y9.2.2.2.1,v11))))))
def ZR(e1:EV)(nl2:Bool)(m3:List (DT×EV)):M (Bool×(List (DT×EV))):=
 M.bind (cond nl2
  (M.pure ([]:List (DT×EV)))
  (M.pure m3)) (fun v4=>
 M.bind (M.det (xM e1)) fun v9=>
 M.pure (false,(AL.set v4 e1.dot v9)))
def zw(l2:List EV):Int×Bool×(List (DT×EV))×Bool×(List (DT×EV))->M (M.Step (Int×Bool×(List (DT×EV))×Bool×(List (DT×EV))) (M.Ex (Bool×(List (DT×EV))×Bool×(List (DT×EV))) (Unit⊕(List PT×Bool×(List (DT×EV))×Bool×(List (DT×EV)))))):=fun⟨v72,nl73,v74,nl75,v76⟩=>
 cond ((decide (v72 < (l2.length:Int))))
  (M.bind (M.bind (M.idx l2 v72) fun x82=>
  M.bind (M.bind (M.det (uN x82)) fun v85=>
  cond (!v85)
   (M.pure true)
   (cond (decide (0 < v72))
    (M.bind (M.idx l2 (IntKind.i64.wrap (v72 - 1))) fun x89=>
    M.bind (M.det (uX x89.dot x82.dot)) fun v91=>
    cond (decide (0<=v91))
     (M.pure true)
     (cond (decide (x82.kind=1))
      (M.bind (M.det (vI l2 x82.dot)) fun v95=>
      M.pure v95)
      (M.pure false)))
    (cond (decide (x82.kind=1))
     (M.bind (M.det (vI l2 x82.dot)) fun v98=>
     M.pure v98)
     (M.pure false)))) (fun v84=>
  cond v84
   (M.pure (.ret ((.done ((.ret (.inl ())))))))
   (cond (decide (x82.kind=1))
    (M.bind (M.det (ZR x82 nl75 v76)) fun y102=>
    M.pure (.brk (nl73,v74,y102.1,y102.2)))
    (M.bind (M.det (ZR x82 nl73 v74)) fun y104=>
    M.pure (.brk (y104.1,y104.2,nl75,v76)))))) (M.exk (fun⟨nl78,v79,nl80,v81⟩=>
  M.pure (.next (((IntKind.i64.wrap (v72+1)),nl78,v79,nl80,v81))))))
  (M.pure (.done (.brk (nl73,v74,nl75,v76))))
def uZ(c1:List PT)(l2:List EV):M (Unit⊕(List PT×Bool×(List (DT×EV))×Bool×(List (DT×EV)))):=
 M.bind (M.det (vS c1)) fun v3=>
 M.bind (M.loop (zw l2) ((0,true,([]:List (DT×EV)),true,([]:List (DT×EV))))) (M.exk (fun⟨nl5,v6,nl7,v8⟩=>
 M.bind (M.bind (M.det (uA c1)) fun v107=>
 cond (!v107)
  (M.pure true)
  (M.bind (M.det (XE l2)) fun v110=>
  M.bind (M.det (XD v110 c1)) fun v112=>
  M.pure ((decide (0 < ((v112.length):Int)))))) (fun v106=>
 cond v106
  (M.pure (.inl ()))
  (M.pure (.inr (v3,nl7,v8,nl5,v6))))))
def YS :M (Bool×(List ((Int×Int)×List RN))):=
 M.pure ((true,([]:List ((Int×Int)×List RN))))
def xb(who1:Int)(nl2:Bool)(m3:List ((Int×Int)×List RN)):M Bool:=
 M.pure (AL.has m3 (who1,0))
def yQ(who1:Int)(dev2:Int)(l3:List RN)(nl4:Bool)(m5:List ((Int×Int)×List RN)):M (Bool×(List ((Int×Int)×List RN))):=
 M.bind (cond nl4
  (M.pure (([]:List ((Int×Int)×List RN))))
  (M.pure m5)) (fun v6=>
 M.pure ((false,(AL.set v6 (who1,dev2) l3))))
def yv(who1:Int)(nl2:Bool)(m3:List ((Int×Int)×List RN)):M (Bool×Bool×(List ((Int×Int)×List RN))):=
 M.bind (cond (decide (who1=0))
  (M.pure true)
  (M.bind (M.det (xb who1 nl2 m3)) fun y6=>
  M.pure y6)) (fun v4=>
 cond v4
  (M.pure (false,nl2,m3))
  (M.bind (M.det (yQ who1 0 ([]:List RN) nl2 m3)) fun y9=>
  M.pure (true,y9.1,y9.2)))
def ua(m3:List ((Int×Int)×List RN))(who1:Int):List Nat×List PT->M (M.Step (List Nat×List PT) (List PT)):=fun⟨seen30,c31⟩=>
 M.yb (∀ i∈seen30,i < m3.length)<|M.bind (M.nxt (m3.length) seen30) fun o=>match o with
 | none=>
  M.pure (.done c31)
 | some j32=>
  M.bind (M.idx m3 (Int.ofNat j32)) fun kv36=>
  cond (decide (kv36.1.1=who1))
   (M.yb ((c31.length+List.length ([(⟨kv36.1.2,kv36.2⟩:PT)]))*32<=140737488355328) <|
   M.pure (.next (((seen30++[j32]),(c31++[(⟨kv36.1.2,kv36.2⟩:PT)])))))
   (M.pure (.next ((seen30++[j32]),c31)))
def yf(who1:Int)(nl2:Bool)(m3:List ((Int×Int)×List RN)):M (List PT):=
 M.bind (M.loop (ua m3 who1) ([],([]:List PT))) (fun c5=>
 M.bind (M.det (vS c5)) fun v43=>
 M.pure v43)
def vw(v10:List PT)(who1:Int):Int×Bool×(List ((Int×Int)×List RN))->M (M.Step (Int×Bool×(List ((Int×Int)×List RN))) (Bool×(List ((Int×Int)×List RN)))):=fun⟨v27,nl28,v29⟩=>
 cond ((decide (v27 < ((v10.length):Int))))
  (M.bind (M.idx v10 v27) fun x31=>
  M.bind (M.det (yQ who1 x31.dev x31.runs nl28 v29)) fun y33=>
  M.pure (.next (((IntKind.i64.wrap (v27+1)),y33.1,y33.2))))
  (M.pure (.done (nl28,v29)))
def yw(who1:Int)(c2:List PT)(nl3:Bool)(m4:List ((Int×Int)×List RN)):M (Int×Bool×(List ((Int×Int)×List RN))):=
 M.bind (M.det (xb who1 nl3 m4)) fun y5=>
 cond (!y5)
  (M.pure (6,nl3,m4))
  (M.bind (M.det (yf who1 nl3 m4)) fun y8=>
  M.bind (M.det (VV y8 c2)) fun v10=>
  M.bind (M.loop (vw v10 who1) (0,nl3,m4)) (fun⟨nl12,v13⟩=>
  M.pure (0,nl12,v13)))
def vn(s1:THubState):Int×Bool×(List ((Int×Int)×List RN))->M (M.Step (Int×Bool×(List ((Int×Int)×List RN))) (M.Ex (Bool×(List ((Int×Int)×List RN))) (Unit⊕(Int×Int×A16×List PT×Bool×(List (Int×TMember))×Bool×(List ((Int×Int)×List RN))×Bool×(List (DT×EV))×Bool×(List (DT×EV)))))):=fun⟨v46,nl47,v48⟩=>
 cond ((decide (v46 < (s1.rows.length:Int))))
  (M.bind (M.idx s1.rows v46) fun x50=>
  M.bind (M.bind (M.idx s1.members v46) fun x53=>
  cond (!decide (x50.who=x53.dev))
   (M.pure true)
   (M.bind (M.det (uA x50.have_)) fun v56=>
   M.pure (!v56))) (fun v52=>
  cond v52
   (M.pure (.done ((.ret (.inl ())))))
   (M.bind (M.det (yv x50.who nl47 v48)) fun y59=>
   M.bind (M.det (yw x50.who x50.have_ y59.2.1 y59.2.2)) fun y61=>
   M.pure (.next (((IntKind.i64.wrap (v46+1)),y61.2.1,y61.2.2))))))
  (M.pure (.done (.brk (nl47,v48))))
def wn(s1:THubState):M (Unit⊕(Int×Int×A16×List PT×Bool×(List (Int×TMember))×Bool×(List ((Int×Int)×List RN))×Bool×(List (DT×EV))×Bool×(List (DT×EV)))):=
 M.bind (M.det (wk s1.epoch s1.last s1.members s1.tries)) fun y2=>
 M.sum y2 (fun z4=>
  M.pure (.inl ())) (fun z5=>
  M.bind (M.det (uZ s1.ctx s1.all)) fun y6=>
  M.sum y6 (fun z8=>
   M.pure (.inl ())) (fun z9=>
   cond ((!decide ((s1.rows.length:Int)=(s1.members.length:Int))))
    (M.pure (.inl ()))
    (M.bind (M.det (YS)) fun y11=>
    M.bind (M.loop (vn s1) (0,y11.1,y11.2)) (M.exk (fun⟨nl13,v14⟩=>
    M.pure (.inr (z5.1,z5.2.1,z5.2.2.1,z9.1,z5.2.2.2.1,z5.2.2.2.2,nl13,v14,z9.2.1,z9.2.2.1,z9.2.2.2.1,z9.2.2.2.2)))))))
def uO(s1:THubState):M Bool:=
 M.bind (M.bind (M.det (wn s1)) fun y3=>
 M.sum y3 (fun z5=>
  M.pure (1:Int)) (fun z6=>
  M.pure (0:Int))) (fun e2=>
 M.bind (cond (decide (e2=0))
  (M.pure ((decide ((s1.all.length:Int)<=4096))))
  (M.pure false)) (fun v7=>
 M.pure v7))
def ZC :Int×Int->M (M.Step (Int×Int) Int):=fun⟨v7,n8⟩=>
 cond (decide (0 < v7))
  (M.pure (.next (((Int.fdiv v7 (2 ^ 8)),(IntKind.i64.wrap (n8+1))))))
  (M.pure (.done n8))
def WD(v1:Int):M Int:=
 M.bind (M.loop ZC (v1,0)) (fun n2=>
 M.pure n2)
def XF(v1:Int)(i2:Int):M Int:=
 cond ((decide (7 < (IntKind.u64.wrap i2))))
  (M.pure 0)
  (M.yb ((0:Int)<=((IntKind.u64.wrap (8*(IntKind.u64.wrap i2))))) <|
  M.pure ((IntKind.u8.wrap ((Int.fdiv v1 (2 ^ (min (Int.toNat ((IntKind.u64.wrap (8*(IntKind.u64.wrap i2))))) 64)))))))
def uE(v2:Int):Int×List Int->M (M.Step (Int×List Int) (List Int)):=fun⟨i19,v20⟩=>
 cond (decide (0<=i19))
  (M.bind (M.det (XF v2 i19)) fun v22=>
  M.yb ((v20.length+List.length ([v22]))*1<=140737488355328) <|
  M.pure (.next (((IntKind.i64.wrap (i19 - 1)),(v20++[v22])))))
  (M.pure (.done v20))
def XG(b1:List Int)(v2:Int):M (List Int):=
 M.bind (M.det (WD v2)) fun v3=>
 M.yb ((0:Int)<=((IntKind.i64.wrap (((IntKind.i64.wrap ((b1.length:Int)+v3)))+1)))/\((IntKind.i64.wrap (((IntKind.i64.wrap ((b1.length:Int)+v3)))+1)))*1<=140737488355328) <|
 M.yb ((List.length ([]:List Int)+b1.length)*1<=140737488355328) <|
 M.yb ((List.length (([]:List Int)++b1)+List.length ([(IntKind.u8.wrap v3)]))*1<=140737488355328) <|
 M.bind (M.loop (uE v2) (((IntKind.i64.wrap (v3 - 1)),((([]:List Int)++b1)++[(IntKind.u8.wrap v3)])))) (fun v8=>
 M.pure v8)
def yV(b1:List Int)(row2:List Int):M (List Int):=
 M.yb ((row2.length+b1.length)*1<=140737488355328) <|
 M.pure (row2++b1)
def zJ(v1:Int)(row2:List Int):M (List Int):=
 M.bind (M.det (XG ([]:List Int) v1)) fun v3=>
 M.bind (M.det (yV v3 row2)) fun y5=>
 M.pure y5
def yN(c1:Int)(row2:List Int):M (List Int):=
 M.bind (M.det (yV ([c1]) row2)) fun y3=>
 M.pure y3
def xn(x79:PT):Int×List Int->M (M.Step (Int×List Int) (List Int)):=fun⟨v101,v102⟩=>
 cond ((decide (v101 < (x79.runs.length:Int))))
  (M.bind (M.idx x79.runs v101) fun x104=>
  M.bind (M.det (zJ x104.lo v102)) fun y106=>
  M.bind (M.det (zJ x104.hi y106)) fun y108=>
  M.pure (.next (((IntKind.i64.wrap (v101+1)),y108))))
  (M.pure (.done v102))
def xp(v3:List PT):Int×List Int->M (M.Step (Int×List Int) (List Int)):=fun⟨v75,v76⟩=>
 cond ((decide (v75 < ((v3.length):Int))))
  (M.bind (M.bind (M.idx v3 v75) fun x79=>
  M.bind (M.det (zJ (IntKind.u64.wrap x79.dev) v76)) fun y81=>
  M.bind (M.det (zJ (IntKind.u64.wrap (x79.runs.length:Int)) y81)) fun y83=>
  M.loop (xn x79) (0,y83)) (fun v78=>
  M.pure (.next (((IntKind.i64.wrap (v75+1)),v78)))))
  (M.pure (.done v76))
def xP(c1:List PT)(row2:List Int):M (List Int):=
 M.bind (M.det (vS c1)) fun v3=>
 M.bind (M.det (zJ ((IntKind.u64.wrap ((v3.length):Int))) row2)) fun y5=>
 M.loop (xp v3) (0,y5)
def wH(d1:DT)(row2:List Int):M (List Int):=
 M.bind (M.det (zJ (IntKind.u64.wrap d1.dev) row2)) fun y3=>
 M.bind (M.det (zJ d1.n y3)) fun y5=>
 M.pure y5
def xX(s1:ByteArray)(row2:List Int):M (List Int):=
 M.bind (M.det (zJ (IntKind.u64.wrap (ByteArray.size s1:Int)) row2)) fun y3=>
 M.yb (ByteArray.size s1<=9223372036854775807) <|
 M.bind (M.det (yV (yJ s1) y3)) fun y6=>
 M.pure y6
def yl(l1:List DT):Int×List DT->M (M.Step (Int×List DT) (List DT)):=fun⟨v22,some23⟩=>
 cond ((decide (v22 < (l1.length:Int))))
  (M.bind (M.bind (M.idx l1 v22) fun x26=>
  M.bind (M.det (ZB x26)) fun v28=>
  cond v28
   (M.yb ((some23.length+List.length ([x26]))*16<=140737488355328) <|
   M.pure (some23++[x26]))
   (M.pure some23)) (fun some25=>
  M.pure (.next (((IntKind.i64.wrap (v22+1)),some25)))))
  (M.pure (.done some23))
def xY(v32:List DT):Int×List Int->M (M.Step (Int×List Int) (List Int)):=fun⟨v48,v49⟩=>
 cond ((decide (v48 < ((v32.length):Int))))
  (M.bind (M.idx v32 v48) fun x51=>
  M.bind (M.det (wH x51 v49)) fun y53=>
  M.pure (.next (((IntKind.i64.wrap (v48+1)),y53))))
  (M.pure (.done v49))
def wq(l1:List DT)(row2:List Int):M (List Int):=
 M.bind (M.loop (yl l1) (0,([]:List DT))) (fun some3=>
 M.bind (M.det (XC some3)) fun v32=>
 M.bind (M.det (zJ ((IntKind.u64.wrap ((v32.length):Int))) row2)) fun y34=>
 M.loop (xY v32) (0,y34))
def Zm(e1:EV)(row2:List Int):M (List Int):=
 M.bind (M.det (wH e1.dot row2)) fun y3=>
 M.bind (M.det (yN e1.kind y3)) fun y5=>
 M.bind (M.det (zJ e1.cid y5)) fun y7=>
 M.bind (M.det (yN e1.field y7)) fun y9=>
 M.bind (M.det (xX e1.text y9)) fun y11=>
 M.bind (M.det (wq e1.kills y11)) fun y13=>
 M.pure y13
def xq(l1:List EV):Int×List Int->M (M.Step (Int×List Int) (List Int)):=fun⟨v17,v18⟩=>
 cond ((decide (v17 < (l1.length:Int))))
  (M.bind (M.idx l1 v17) fun x20=>
  M.bind (M.det (Zm x20 v18)) fun y22=>
  M.pure (.next (((IntKind.i64.wrap (v17+1)),y22))))
  (M.pure (.done v18))
def vT(l1:List EV)(row2:List Int):M (List Int):=
 M.bind (M.det (zJ (IntKind.u64.wrap (l1.length:Int)) row2)) fun y3=>
 M.loop (xq l1) (0,y3)
def xH(row1:List Int):M (List Int×List Int):=
 M.yb (row1.length*1<=140737488355328) <|
 M.pure (row1,row1)
def YT(s1:THubState):Int×List Int->M (M.Step (Int×List Int) (List Int)):=fun⟨v32,v33⟩=>
 cond ((decide (v32 < (s1.members.length:Int))))
  (M.bind (M.idx s1.members v32) fun x35=>
  M.bind (M.det (zJ (IntKind.u64.wrap x35.dev) v33)) fun y37=>
  M.bind (M.det (yN x35.slot y37)) fun y39=>
  M.bind (M.det (zJ x35.try_ y39)) fun y41=>
  M.pure (.next (((IntKind.i64.wrap (v32+1)),y41))))
  (M.pure (.done v33))
def YU(s1:THubState):Int×List Int->M (M.Step (Int×List Int) (List Int)):=fun⟨v56,v57⟩=>
 cond ((decide (v56 < (s1.tries.length:Int))))
  (M.bind (M.idx s1.tries v56) fun x59=>
  M.bind (M.det (zJ x59 v57)) fun y61=>
  M.pure (.next (((IntKind.i64.wrap (v56+1)),y61))))
  (M.pure (.done v57))
def YV(s1:THubState):Int×List Int->M (M.Step (Int×List Int) (List Int)):=fun⟨v76,v77⟩=>
 cond ((decide (v76 < (s1.rows.length:Int))))
  (M.bind (M.idx s1.rows v76) fun x79=>
  M.bind (M.det (xP x79.have_ v77)) fun y81=>
  M.pure (.next (((IntKind.i64.wrap (v76+1)),y81))))
  (M.pure (.done v77))
def ub(s1:THubState):M (List Int×Int):=
 M.bind (M.det (uO s1)) fun v2=>
 cond (!v2)
  (M.pure (([]:List Int),1))
  (M.bind (M.det (zJ s1.epoch ([]:List Int))) fun y5=>
  M.bind (M.det (zJ (IntKind.u64.wrap s1.last) y5)) fun y7=>
  M.bind (M.det (zJ (IntKind.u64.wrap (s1.members.length:Int)) y7)) fun y9=>
  M.bind (M.loop (YT s1) (0,y9)) (fun v11=>
  M.bind (M.loop (YU s1) (0,v11)) (fun v43=>
  M.bind (M.loop (YV s1) (0,v43)) (fun v63=>
  M.bind (M.det (xP s1.ctx v63)) fun y83=>
  M.bind (M.det (vT s1.all y83)) fun y85=>
  M.bind (M.det (xH y85)) fun y87=>
  M.pure (y87.1,0)))))
def uc(a1:List Int)(b2:List Int):M Bool:=
 M.pure ((decide ((qG a1)=(qG b2))))
def yA(s1:List Int):M (List Int):=
 M.bind (M.isNil s1) fun b2=>
 cond b2
  (M.pure ([]:List Int))
  (M.yb ((List.length ([]:List Int)+s1.length)*8<=140737488355328) <|
  M.pure (([]:List Int)++s1))
def Wg :M (List PT×Bool×(List (DT×EV))×Bool×(List (DT×EV))):=
 M.pure ((([]:List PT),true,([]:List (DT×EV)),true,([]:List (DT×EV))))
def YW :M (Int×Int×A16×List PT×Bool×(List (Int×TMember))×Bool×(List ((Int×Int)×List RN))×Bool×(List (DT×EV))×Bool×(List (DT×EV))):=
 M.bind (M.det (vb)) fun y1=>
 M.bind (M.det (YS)) fun y3=>
 M.bind (M.det (Wg)) fun y5=>
 M.pure (y1.1,y1.2.1,y1.2.2.1,y5.1,y1.2.2.2.1,y1.2.2.2.2,y3.1,y3.2,y5.2.1,y5.2.2.1,y5.2.2.2.1,y5.2.2.2.2)
def wA(epoch_1:Int)(last_2:Int)(c3:A16)(ctx_4:List PT)(nl5:Bool)(m6:List (Int×TMember))(nl7:Bool)(m8:List ((Int×Int)×List RN))(nl9:Bool)(m10:List (DT×EV))(nl11:Bool)(m12:List (DT×EV)):M Bool:=
 M.pure false
def ym(epoch_1:Int)(last_2:Int)(c3:A16)(nl4:Bool)(m5:List (Int×TMember)):M Int:=
 M.bind (M.det (zr epoch_1 last_2 c3 nl4 m5)) fun y6=>
 cond y6
  (M.pure 0)
  (M.pure epoch_1)
def yu(epoch_1:Int)(last_2:Int)(c3:A16)(nl4:Bool)(m5:List (Int×TMember)):M Int:=
 M.bind (M.det (zr epoch_1 last_2 c3 nl4 m5)) fun y6=>
 cond y6
  (M.pure 0)
  (M.pure last_2)
def yn(epoch_1:Int)(last_2:Int)(c3:A16)(nl4:Bool)(m5:List (Int×TMember)):M (List Int):=
 M.bind (M.det (zr epoch_1 last_2 c3 nl4 m5)) fun y6=>
 cond y6
  (M.pure ([]:List Int))
  (M.bind (M.det (yA (AR.l c3))) fun v9=>
  M.pure v9)
def wv(ctx_1:List PT)(nl2:Bool)(m3:List (DT×EV))(nl4:Bool)(m5:List (DT×EV)):M (List PT):=
 M.bind (M.det (vS ctx_1)) fun v6=>
 M.pure v6
def YX(m2:List (DT×EV)):List Nat×List EV->M (M.Step (List Nat×List EV) (List EV)):=fun⟨seen32,out33⟩=>
 M.yb (∀ i∈seen32,i < m2.length)<|M.bind (M.nxt (m2.length) seen32) fun o=>match o with
 | none=>
  M.pure (.done out33)
 | some j34=>
  M.bind (M.idx m2 (Int.ofNat j34)) fun kv38=>
  M.bind (M.det (xM kv38.2)) fun v40=>
  M.yb ((out33.length+List.length ([v40]))*80<=140737488355328) <|
  M.pure (.next ((seen32++[j34]),(out33++[v40])))
def YY(m4:List (DT×EV)):List Nat×List EV->M (M.Step (List Nat×List EV) (List EV)):=fun⟨seen70,out71⟩=>
 M.yb (∀ i∈seen70,i < m4.length)<|M.bind (M.nxt (m4.length) seen70) fun o=>match o with
 | none=>
  M.pure (.done out71)
 | some j72=>
  M.bind (M.idx m4 (Int.ofNat j72)) fun kv76=>
  M.bind (M.det (xM kv76.2)) fun v78=>
  M.yb ((out71.length+List.length ([v78]))*80<=140737488355328) <|
  M.pure (.next ((seen70++[j72]),(out71++[v78])))
def ZD(nl1:Bool)(m2:List (DT×EV))(nl3:Bool)(m4:List (DT×EV)):M (List EV):=
 M.bind (M.bind (M.loop (YX m2) ([],([]:List EV))) (fun out8=>
 M.bind (M.loop (YY m4) ([],out8)) (fun out46=>
 M.pure out46))) (fun out5=>
 M.yb (out5.length < 4611686018427387904)<|M.bind (M.srt Xi out5) fun s82=>
 M.pure s82)
def ww(ctx_1:List PT)(nl2:Bool)(m3:List (DT×EV))(nl4:Bool)(m5:List (DT×EV)):M (List EV):=
 M.bind (M.det (ZD nl2 m3 nl4 m5)) fun y6=>
 M.pure y6
def ZS(y20:List TMember)(nl7:Bool)(m8:List ((Int×Int)×List RN)):Int×List TRow->M (M.Step (Int×List TRow) (List TRow)):=fun⟨v43,v44⟩=>
 cond ((decide (v43 < (y20.length:Int))))
  (M.bind (M.idx y20 v43) fun x46=>
  M.bind (M.det (yf x46.dev nl7 m8)) fun y48=>
  M.yb ((v44.length+List.length ([(⟨x46.dev,y48⟩:TRow)]))*32<=140737488355328) <|
  M.pure (.next (((IntKind.i64.wrap (v43+1)),(v44++[(⟨x46.dev,y48⟩:TRow)])))))
  (M.pure (.done v44))
def yo(epoch_1:Int)(last_2:Int)(c3:A16)(ctx_4:List PT)(nl5:Bool)(m6:List (Int×TMember))(nl7:Bool)(m8:List ((Int×Int)×List RN))(nl9:Bool)(m10:List (DT×EV))(nl11:Bool)(m12:List (DT×EV)):M THubState:=
 M.bind (M.det (wA epoch_1 last_2 c3 ctx_4 nl5 m6 nl7 m8 nl9 m10 nl11 m12)) fun y13=>
 cond y13
  (M.pure (⟨0,0,([]:List TMember),([]:List Int),([]:List TRow),([]:List PT),([]:List EV)⟩:THubState))
  (M.bind (M.det (ym epoch_1 last_2 c3 nl5 m6)) fun y16=>
  M.bind (M.det (yu epoch_1 last_2 c3 nl5 m6)) fun y18=>
  M.bind (M.det (yE epoch_1 last_2 c3 nl5 m6)) fun y20=>
  M.bind (M.det (yn epoch_1 last_2 c3 nl5 m6)) fun y22=>
  M.bind (M.det (wv ctx_4 nl9 m10 nl11 m12)) fun y24=>
  M.bind (M.det (ww ctx_4 nl9 m10 nl11 m12)) fun y26=>
  M.bind (M.loop (ZS y20 nl7 m8) (0,([]:List TRow))) (fun v28=>
  M.pure (⟨y16,y18,y20,y22,v28,y24,y26⟩:THubState)))
def YZ :M Bool:=
 M.bind (M.det (YW)) fun y1=>
 M.bind (M.det (yo y1.1 y1.2.1 y1.2.2.1 y1.2.2.2.1 y1.2.2.2.2.1 y1.2.2.2.2.2.1 y1.2.2.2.2.2.2.1 y1.2.2.2.2.2.2.2.1 y1.2.2.2.2.2.2.2.2.1 y1.2.2.2.2.2.2.2.2.2.1 y1.2.2.2.2.2.2.2.2.2.2.1 y1.2.2.2.2.2.2.2.2.2.2.2)) fun y3=>
 M.bind (M.det (ub y3)) fun v5=>
 M.bind (cond (decide (v5.2=0))
  (cond ((decide ((v5.1.length:Int)=22)))
   (M.bind (M.idx v5.1 0) fun x10=>
   cond (decide (x10=1))
    (M.bind (M.idx v5.1 1) fun x13=>
    cond (decide (x13=1))
     (M.yb ((0:Int)<=2/\(2:Int)<=(v5.1.length:Int)/\(v5.1.length:Int)<=(v5.1.length:Int)) <|
     M.bind (M.det (uc ((List.drop (Int.toNat 2) (List.take (Int.toNat (v5.1.length:Int)) v5.1))) (List.replicate 20 0))) fun v17=>
     M.pure v17)
     (M.pure false))
    (M.pure false))
   (M.pure false))
  (M.pure false)) (fun v7=>
 M.pure v7)
def wEa(a1:List RN)(b2:List RN):Int->M (M.Step Int (M.Ex Unit Bool)):=fun i17=>
 cond ((decide (i17 < (a1.length:Int))))
  (M.bind (M.idx a1 i17) fun x19=>
  M.bind (M.idx b2 i17) fun x21=>
  cond ((!(decide (x19.lo=x21.lo)&&decide (x19.hi=x21.hi))))
   (M.pure (.done (.ret false)))
   (M.pure (.next (IntKind.i64.wrap (i17+1)))))
  (M.pure (.done (.brk ())))
def z1a(a1:List RN)(b2:List RN):M Bool:=
 cond ((!decide ((a1.length:Int)=(b2.length:Int))))
  (M.pure false)
  (M.bind (M.loop (wEa a1 b2) 0) (M.exk (fun _=>
  M.pure true)))
def WE(a1:List PT)(b2:List PT):Int->M (M.Step Int (M.Ex Unit Bool)):=fun i33=>
 cond ((decide (i33 < (a1.length:Int))))
  (M.bind (M.bind (M.idx a1 i33) fun x36=>
  M.bind (M.idx b2 i33) fun x38=>
  cond (!decide (x36.dev=x38.dev))
   (M.pure true)
   (M.bind (M.idx a1 i33) fun x41=>
   M.bind (M.idx b2 i33) fun x43=>
   M.bind (M.det (z1a x41.runs x43.runs)) fun v45=>
   M.pure (!v45))) (fun v35=>
  cond v35
   (M.pure (.done (.ret false)))
   (M.pure (.next (IntKind.i64.wrap (i33+1))))))
  (M.pure (.done (.brk ())))
def jO(a1:List PT)(b2:List PT):M Bool:=
 cond ((!decide ((a1.length:Int)=(b2.length:Int))))
  (M.pure false)
  (M.bind (M.loop (WE a1 b2) 0) (M.exk (fun _=>
  M.pure true)))
def ud(x7:Int)(at2:Int)(b1:List Int):Int×Int->M (M.Step (Int×Int) Int):=fun⟨v28,v29⟩=>
 cond ((decide (v29 < ((List.length ((List.drop (Int.toNat 0) (List.take (Int.toNat (IntKind.i64.wrap x7)) ((List.drop (Int.toNat (IntKind.i64.wrap (at2+1))) (List.take (Int.toNat (b1.length:Int)) b1)))))):Int)))))
  (M.bind (M.idx ((List.drop (Int.toNat 0) (List.take (Int.toNat (IntKind.i64.wrap x7)) ((List.drop (Int.toNat (IntKind.i64.wrap (at2+1))) (List.take (Int.toNat (b1.length:Int)) b1)))))) v29) fun x31=>
  M.pure (.next (((bOr .u64 (IntKind.u64.wrap (v28*2 ^ 8)) (IntKind.u64.wrap x31)),(IntKind.i64.wrap (v29+1))))))
  (M.pure (.done v28))
def VW(b1:List Int)(at2:Int):M (Int×Int×Int):=
 M.bind (cond (decide (at2 < 0))
  (M.pure true)
  (M.pure ((decide ((b1.length:Int) < at2))))) (fun v3=>
 cond v3
  (M.pure (0,0,1))
  (cond ((decide (at2=(b1.length:Int))))
   (M.pure (0,0,2))
   (M.bind (M.idx b1 at2) fun x7=>
   M.yb ((0:Int)<=(IntKind.i64.wrap (at2+1))/\((IntKind.i64.wrap (at2+1)):Int)<=(b1.length:Int)/\(b1.length:Int)<=(b1.length:Int)) <|
   M.bind (cond ((decide (8 < (IntKind.i64.wrap x7))))
    (M.pure true)
    (cond ((decide (0 < (IntKind.i64.wrap x7))))
     (cond ((decide (0 < ((List.length ((List.drop (Int.toNat (IntKind.i64.wrap (at2+1))) (List.take (Int.toNat (b1.length:Int)) b1))):Int)))))
      (M.bind (M.idx ((List.drop (Int.toNat (IntKind.i64.wrap (at2+1))) (List.take (Int.toNat (b1.length:Int)) b1))) 0) fun x14=>
      M.pure (decide (x14=0)))
      (M.pure false))
     (M.pure false))) (fun v10=>
   cond v10
    (M.pure (0,0,4))
    (cond ((decide (((List.length ((List.drop (Int.toNat (IntKind.i64.wrap (at2+1))) (List.take (Int.toNat (b1.length:Int)) b1))):Int)) < (IntKind.i64.wrap x7))))
     (M.pure (0,0,2))
     (M.yb ((0:Int)<=0/\(0:Int)<=(IntKind.i64.wrap x7)/\(IntKind.i64.wrap x7)<=(List.length ((List.drop (Int.toNat (IntKind.i64.wrap (at2+1))) (List.take (Int.toNat (b1.length:Int)) b1))):Int)) <|
     M.bind (M.loop (ud x7 at2 b1) (0,0)) (fun v19=>
     M.pure ((v19,(IntKind.i64.wrap ((IntKind.i64.wrap (at2+1))+(IntKind.i64.wrap x7))),0)))))))))
def XH(b1:List Int):M (List Int×Int):=
 M.yb (b1.length*1<=140737488355328) <|
 M.pure (b1,0)
def zU(b_1:List Int)(bad_2:Int):M (Int×List Int×Int):=
 M.pure (bad_2,b_1,bad_2)
def zE(e1:Int)(b_2:List Int)(bad_3:Int):M (List Int×Int):=
 M.bind (cond (decide (bad_3=0))
  (M.pure (!decide (e1=0)))
  (M.pure false)) (fun v4=>
 cond v4
  (M.pure (([]:List Int),e1))
  (M.pure (b_2,bad_3)))
def yg(n1:Int)(b_2:List Int)(bad_3:Int):M (List Int×List Int×Int):=
 M.yb ((0:Int)<=0/\(0:Int)<=n1/\n1<=(b_2.length:Int)) <|
 M.yb ((0:Int)<=n1/\(n1:Int)<=(b_2.length:Int)/\(b_2.length:Int)<=(b_2.length:Int)) <|
 M.pure (((List.drop (Int.toNat 0) (List.take (Int.toNat n1) b_2)),(List.drop (Int.toNat n1) (List.take (Int.toNat (b_2.length:Int)) b_2)),bad_3))
def zK(b_1:List Int)(bad_2:Int):M (Int×List Int×Int):=
 M.bind (M.det (zU b_1 bad_2)) fun y3=>
 cond (!decide (y3.1=0))
  (M.pure (0,y3.2.1,y3.2.2))
  (M.bind (M.det (VW y3.2.1 0)) fun v6=>
  cond (!decide (v6.2.2=0))
   (M.bind (M.det (zE v6.2.2 y3.2.1 y3.2.2)) fun y9=>
   M.pure (0,y9.1,y9.2))
   (M.bind (M.det (yg v6.2.1 y3.2.1 y3.2.2)) fun y11=>
   M.pure (v6.1,y11.2.1,y11.2.2)))
def zl(most1:Int)(b_2:List Int)(bad_3:Int):M (Int×List Int×Int):=
 M.bind (M.det (zK b_2 bad_3)) fun y4=>
 cond (decide (most1 < y4.1))
  (M.bind (M.det (zE 4 y4.2.1 y4.2.2)) fun y7=>
  M.pure (0,y7.1,y7.2))
  (M.pure (y4.1,y4.2.1,y4.2.2))
def vo(b_1:List Int)(bad_2:Int):M (Int×List Int×Int):=
 M.pure ((b_1.length:Int),b_1,bad_2)
def yO(b_1:List Int)(bad_2:Int):M (Int×List Int×Int):=
 M.bind (M.det (vo b_1 bad_2)) fun y3=>
 M.pure (y3.1,y3.2.1,y3.2.2)
def zm(b_1:List Int)(bad_2:Int):M (Int×List Int×Int):=
 M.bind (M.det (zU b_1 bad_2)) fun y3=>
 cond (!decide (y3.1=0))
  (M.pure (0,y3.2.1,y3.2.2))
  (M.bind (M.det (yO y3.2.1 y3.2.2)) fun y6=>
  cond (decide (y6.1=0))
   (M.bind (M.det (zE 2 y6.2.1 y6.2.2)) fun y9=>
   M.pure (0,y9.1,y9.2))
   (M.bind (M.det (yg 1 y6.2.1 y6.2.2)) fun y11=>
   M.bind (M.idx y11.1 0) fun x13=>
   M.pure (x13,y11.2.1,y11.2.2)))
def ZE(y3:Int×List Int×Int):Int×List TMember×List Int×Int->M (M.Step (Int×List TMember×List Int×Int) (List TMember×List Int×Int)):=fun⟨v31,out32,v33,v34⟩=>
 cond (decide (v31 < y3.1))
  (M.bind (M.det (zl 65535 v33 v34)) fun y36=>
  M.bind (M.det (zm y36.2.1 y36.2.2)) fun y38=>
  M.bind (M.det (zK y38.2.1 y38.2.2)) fun y40=>
  M.yb ((out32.length+List.length ([(⟨(IntKind.u16.wrap y36.1),y38.1,y40.1⟩:TMember)]))*16<=140737488355328) <|
  M.pure (.next (((IntKind.u64.wrap (v31+1)),(out32++[(⟨(IntKind.u16.wrap y36.1),y38.1,y40.1⟩:TMember)]),y40.2.1,y40.2.2))))
  (M.pure (.done (out32,v33,v34)))
def xd(b_1:List Int)(bad_2:Int):M (List TMember×List Int×Int):=
 M.bind (M.det (zK b_1 bad_2)) fun y3=>
 cond (decide (16 < y3.1))
  (M.bind (M.det (zE 3 y3.2.1 y3.2.2)) fun y6=>
  M.pure (([]:List TMember),y6.1,y6.2))
  (M.bind (M.loop (ZE y3) (0,([]:List TMember),y3.2.1,y3.2.2)) (fun⟨out8,v9,v10⟩=>
  M.pure (out8,v9,v10)))
def yx(y5:Int×List Int×Int):Int×List RN×List Int×Int->M (M.Step (Int×List RN×List Int×Int) (List RN×List Int×Int)):=fun⟨v32,v33,v34,v35⟩=>
 cond (decide (v32 < y5.1))
  (M.bind (M.det (zK v34 v35)) fun y37=>
  M.bind (M.det (zK y37.2.1 y37.2.2)) fun y39=>
  M.yb ((v33.length+List.length ([(⟨y37.1,y39.1⟩:RN)]))*16<=140737488355328) <|
  M.bind (M.det (zU y39.2.1 y39.2.2)) fun y42=>
  cond (!decide (y42.1=0))
   (M.pure (.done ((((v33++[(⟨y37.1,y39.1⟩:RN)]),y42.2.1,y42.2.2)))))
   (M.pure (.next (((IntKind.u64.wrap (v32+1)),(v33++[(⟨y37.1,y39.1⟩:RN)]),y42.2.1,y42.2.2)))))
  (M.pure (.done (v33,v34,v35)))
def ZF(b_1:List Int)(bad_2:Int):M (PT×List Int×Int):=
 M.bind (M.det (zl 65535 b_1 bad_2)) fun y3=>
 M.bind (M.det (zK y3.2.1 y3.2.2)) fun y5=>
 M.bind (M.loop (yx y5) (0,([]:List RN),y5.2.1,y5.2.2)) (fun⟨v7,v8,v9⟩=>
 M.pure (((⟨(IntKind.u16.wrap y3.1),v7⟩:PT),v8,v9)))
def xR(y3:Int×List Int×Int):Int×List PT×List Int×Int->M (M.Step (Int×List PT×List Int×Int) (M.Ex (List PT×List Int×Int) (List PT×List Int×Int))):=fun⟨v26,c27,v28,v29⟩=>
 cond (decide (v26 < y3.1))
  (M.bind (M.det (ZF v28 v29)) fun y31=>
  M.yb ((c27.length+List.length ([y31.1]))*32<=140737488355328) <|
  M.bind (M.det (zU y31.2.1 y31.2.2)) fun y34=>
  cond (!decide (y34.1=0))
   (M.pure (.done ((.ret (([]:List PT),y34.2.1,y34.2.2)))))
   (M.pure (.next (((IntKind.u64.wrap (v26+1)),(c27++[y31.1]),y34.2.1,y34.2.2)))))
  (M.pure (.done (.brk (c27,v28,v29))))
def vJ(b_1:List Int)(bad_2:Int):M (List PT×List Int×Int):=
 M.bind (M.det (zK b_1 bad_2)) fun y3=>
 M.bind (M.loop (xR y3) (0,([]:List PT),y3.2.1,y3.2.2)) (M.exk (fun⟨c5,v6,v7⟩=>
 M.bind (M.det (uA c5)) fun v37=>
 cond (!v37)
  (M.bind (M.det (zE 4 v6 v7)) fun y40=>
  M.pure (([]:List PT),y40.1,y40.2))
  (M.pure (c5,v6,v7))))
def vK(b_1:List Int)(bad_2:Int):M (DT×List Int×Int):=
 M.bind (M.det (zl 65535 b_1 bad_2)) fun y3=>
 M.bind (M.det (zK y3.2.1 y3.2.2)) fun y5=>
 M.bind (M.det (ZB (⟨(IntKind.u16.wrap y3.1),y5.1⟩:DT))) fun v7=>
 M.bind (cond (!v7)
  (M.bind (M.det (zE 4 y5.2.1 y5.2.2)) fun y12=>
  M.pure (y12.1,y12.2))
  (M.pure (y5.2.1,y5.2.2))) (fun⟨v9,v10⟩=>
 M.bind (M.det (zU v9 v10)) fun y14=>
 cond (!decide (y14.1=0))
  (M.pure ((⟨0,0⟩:DT),y14.2.1,y14.2.2))
  (M.pure (((⟨(IntKind.u16.wrap y3.1),y5.1⟩:DT),y14.2.1,y14.2.2))))
def yp(most1:Int)(b_2:List Int)(bad_3:Int):M (ByteArray×List Int×Int):=
 M.bind (M.det (zK b_2 bad_3)) fun y4=>
 M.bind (M.det (zU y4.2.1 y4.2.2)) fun y6=>
 cond (!decide (y6.1=0))
  (M.pure ((⟨#[]⟩:ByteArray),y6.2.1,y6.2.2))
  (cond ((decide ((IntKind.u64.wrap (max most1 0)) < y4.1)))
   (M.bind (M.det (zE 3 y6.2.1 y6.2.2)) fun y10=>
   M.pure ((⟨#[]⟩:ByteArray),y10.1,y10.2))
   (M.bind (M.det (yO y6.2.1 y6.2.2)) fun y12=>
   cond ((decide ((IntKind.u64.wrap y12.1) < y4.1)))
    (M.bind (M.det (zE 2 y12.2.1 y12.2.2)) fun y15=>
    M.pure ((⟨#[]⟩:ByteArray),y15.1,y15.2))
    (M.bind (M.det (yg (IntKind.i64.wrap y4.1) y12.2.1 y12.2.2)) fun y17=>
    M.pure ((qG y17.1),y17.2.1,y17.2.2))))
def yy(y4:Int×List Int×Int):Int×List DT×List Int×Int->M (M.Step (Int×List DT×List Int×Int) (M.Ex (List DT×List Int×Int) (List DT×List Int×Int))):=fun⟨v52,out53,v54,v55⟩=>
 cond (decide (v52 < y4.1))
  (M.bind (M.det (vK v54 v55)) fun y57=>
  M.bind (cond ((decide (0<=((IntKind.i64.wrap (((out53.length):Int) - 1))))))
   (M.bind (M.idx out53 ((IntKind.i64.wrap (((out53.length):Int) - 1)))) fun x61=>
   M.bind (M.det (uX x61 y57.1)) fun v63=>
   M.pure (decide (0<=v63)))
   (M.pure false)) (fun v59=>
  M.bind (cond v59
   (M.bind (M.det (zE 4 y57.2.1 y57.2.2)) fun y68=>
   M.pure (y68.1,y68.2))
   (M.pure (y57.2.1,y57.2.2))) (fun⟨v65,v66⟩=>
  M.bind (M.det (zU v65 v66)) fun y70=>
  cond (!decide (y70.1=0))
   (M.pure (.done ((.ret (([]:List DT),y70.2.1,y70.2.2)))))
   (M.yb ((out53.length+List.length ([y57.1]))*16<=140737488355328) <|
   M.pure (.next (((IntKind.u64.wrap (v52+1)),(out53++[y57.1]),y70.2.1,y70.2.2)))))))
  (M.pure (.done (.brk (out53,v54,v55))))
def vc(most1:Int)(b_2:List Int)(bad_3:Int):M (List DT×List Int×Int):=
 M.bind (M.det (zK b_2 bad_3)) fun y4=>
 cond ((decide ((IntKind.u64.wrap (max most1 0)) < y4.1)))
  (M.bind (M.det (zE 3 y4.2.1 y4.2.2)) fun y7=>
  M.pure (([]:List DT),y7.1,y7.2))
  (M.bind (M.loop (yy y4) (0,([]:List DT),y4.2.1,y4.2.2)) (M.exk (fun⟨out9,v10,v11⟩=>
  M.pure (out9,v10,v11))))
def Zn(b_1:List Int)(bad_2:Int):M (EV×List Int×Int):=
 M.bind (M.det (vK b_1 bad_2)) fun y3=>
 M.bind (M.det (zm y3.2.1 y3.2.2)) fun y5=>
 M.bind (M.det (zK y5.2.1 y5.2.2)) fun y7=>
 M.bind (M.det (zm y7.2.1 y7.2.2)) fun y9=>
 M.bind (M.det (yp 60 y9.2.1 y9.2.2)) fun y11=>
 M.bind (M.det (vc 256 y11.2.1 y11.2.2)) fun y13=>
 M.bind (M.det (uN (⟨y3.1,y5.1,y7.1,y9.1,y11.1,y13.1⟩:EV))) fun v15=>
 M.bind (cond (!v15)
  (M.bind (M.det (zE 4 y13.2.1 y13.2.2)) fun y20=>
  M.pure (y20.1,y20.2))
  (M.pure (y13.2.1,y13.2.2))) (fun⟨v17,v18⟩=>
 M.bind (M.det (zU v17 v18)) fun y22=>
 cond (!decide (y22.1=0))
  (M.pure (((⟨(⟨0,0⟩:DT),0,0,0,(⟨#[]⟩:ByteArray),([]:List DT)⟩:EV),y22.2.1,y22.2.2)))
  (M.pure ((⟨y3.1,y5.1,y7.1,y9.1,y11.1,y13.1⟩:EV),y22.2.1,y22.2.2)))
def yW(y4:Int×List Int×Int):Int×List EV×List Int×Int->M (M.Step (Int×List EV×List Int×Int) (M.Ex (List EV×List Int×Int) (List EV×List Int×Int))):=fun⟨v52,out53,v54,v55⟩=>
 cond (decide (v52 < y4.1))
  (M.bind (M.det (Zn v54 v55)) fun y57=>
  M.bind (cond ((decide (0<=((IntKind.i64.wrap (((out53.length):Int) - 1))))))
   (M.bind (M.idx out53 ((IntKind.i64.wrap (((out53.length):Int) - 1)))) fun x61=>
   M.bind (M.det (uX x61.dot y57.1.dot)) fun v63=>
   M.pure (decide (0<=v63)))
   (M.pure false)) (fun v59=>
  M.bind (cond v59
   (M.bind (M.det (zE 4 y57.2.1 y57.2.2)) fun y68=>
   M.pure (y68.1,y68.2))
   (M.pure (y57.2.1,y57.2.2))) (fun⟨v65,v66⟩=>
  M.bind (M.det (zU v65 v66)) fun y70=>
  cond (!decide (y70.1=0))
   (M.pure (.done ((.ret (([]:List EV),y70.2.1,y70.2.2)))))
   (M.yb ((out53.length+List.length ([y57.1]))*80<=140737488355328) <|
   M.pure (.next (((IntKind.u64.wrap (v52+1)),(out53++[y57.1]),y70.2.1,y70.2.2)))))))
  (M.pure (.done (.brk (out53,v54,v55))))
def wI(most1:Int)(b_2:List Int)(bad_3:Int):M (List EV×List Int×Int):=
 M.bind (M.det (zK b_2 bad_3)) fun y4=>
 cond ((decide ((IntKind.u64.wrap (max most1 0)) < y4.1)))
  (M.bind (M.det (zE 3 y4.2.1 y4.2.2)) fun y7=>
  M.pure (([]:List EV),y7.1,y7.2))
  (M.bind (M.loop (yW y4) (0,([]:List EV),y4.2.1,y4.2.2)) (M.exk (fun⟨out9,v10,v11⟩=>
  M.pure (out9,v10,v11))))
def yz(b_1:List Int)(bad_2:Int):M (Int×List Int×Int):=
 M.bind (M.det (yO b_1 bad_2)) fun y3=>
 M.bind (cond (decide (0 < y3.1))
  (M.bind (M.det (zE 4 y3.2.1 y3.2.2)) fun y8=>
  M.pure (y8.1,y8.2))
  (M.pure (y3.2.1,y3.2.2))) (fun⟨v5,v6⟩=>
 M.bind (M.det (zU v5 v6)) fun y10=>
 M.pure (y10.1,y10.2.1,y10.2.2))
def Ya :Int×List Int×List Int×Int->M (M.Step (Int×List Int×List Int×Int) (List Int×List Int×Int)):=fun⟨v25,v26,v27,v28⟩=>
 cond (decide (v25 < 16))
  (M.bind (M.det (zK v27 v28)) fun y30=>
  M.yb ((v26.length+List.length ([y30.1]))*8<=140737488355328) <|
  M.pure (.next (((IntKind.i64.wrap (v25+1)),(v26++[y30.1]),y30.2.1,y30.2.2))))
  (M.pure (.done (v26,v27,v28)))
def Yb(y8:List TMember×List Int×Int):Int×List TRow×List Int×Int->M (M.Step (Int×List TRow×List Int×Int) (List TRow×List Int×Int)):=fun⟨v52,v53,v54,v55⟩=>
 cond ((decide (v52 < (y8.1.length:Int))))
  (M.bind (M.idx y8.1 v52) fun x57=>
  M.bind (M.det (vJ v54 v55)) fun y59=>
  M.yb ((v53.length+List.length ([(⟨x57.dev,y59.1⟩:TRow)]))*32<=140737488355328) <|
  M.pure (.next (((IntKind.i64.wrap (v52+1)),(v53++[(⟨x57.dev,y59.1⟩:TRow)]),y59.2.1,y59.2.2))))
  (M.pure (.done (v53,v54,v55)))
def ue(b1:List Int):M (THubState×Int):=
 M.bind (M.det (XH b1)) fun y2=>
 M.bind (M.det (zK y2.1 y2.2)) fun y4=>
 M.bind (M.det (zl 65535 y4.2.1 y4.2.2)) fun y6=>
 M.bind (M.det (xd y6.2.1 y6.2.2)) fun y8=>
 M.bind (M.loop Ya (0,([]:List Int),y8.2.1,y8.2.2)) (fun⟨v10,v11,v12⟩=>
 M.bind (M.loop (Yb y8) (0,([]:List TRow),v11,v12)) (fun⟨v33,v34,v35⟩=>
 M.bind (M.det (vJ v34 v35)) fun y62=>
 M.bind (M.det (wI 4096 y62.2.1 y62.2.2)) fun y64=>
 M.bind (M.det (yz y64.2.1 y64.2.2)) fun y66=>
 cond (!decide (y66.1=0))
  (M.pure (((⟨0,0,([]:List TMember),([]:List Int),([]:List TRow),([]:List PT),([]:List EV)⟩:THubState),y66.1)))
  (M.bind (M.det (uO (⟨y4.1,(IntKind.u16.wrap y6.1),y8.1,v10,v33,y62.1,y64.1⟩:THubState))) fun v69=>
  cond (!v69)
   (M.pure (((⟨0,0,([]:List TMember),([]:List Int),([]:List TRow),([]:List PT),([]:List EV)⟩:THubState),4)))
   (M.pure (((⟨y4.1,(IntKind.u16.wrap y6.1),y8.1,v10,v33,y62.1,y64.1⟩:THubState),0))))))
def UD(a1:List TMember)(b2:List TMember):Int->M (M.Step Int (M.Ex Unit Bool)):=fun i17=>
 cond ((decide (i17 < (a1.length:Int))))
  (M.bind (M.idx a1 i17) fun x19=>
  M.bind (M.idx b2 i17) fun x21=>
  cond ((!(decide (x19.dev=x21.dev)&&(decide (x19.slot=x21.slot)&&decide (x19.try_=x21.try_)))))
   (M.pure (.done (.ret false)))
   (M.pure (.next (IntKind.i64.wrap (i17+1)))))
  (M.pure (.done (.brk ())))
def VX(a1:List TMember)(b2:List TMember):M Bool:=
 cond ((!decide ((a1.length:Int)=(b2.length:Int))))
  (M.pure false)
  (M.bind (M.loop (UD a1 b2) 0) (M.exk (fun _=>
  M.pure true)))
def Zo(a1:List DT)(b2:List DT):Int->M (M.Step Int (M.Ex Unit Bool)):=fun i17=>
 cond ((decide (i17 < (a1.length:Int))))
  (M.bind (M.idx a1 i17) fun x19=>
  M.bind (M.idx b2 i17) fun x21=>
  cond ((!(decide (x19.dev=x21.dev)&&decide (x19.n=x21.n))))
   (M.pure (.done (.ret false)))
   (M.pure (.next (IntKind.i64.wrap (i17+1)))))
  (M.pure (.done (.brk ())))
def VY(a1:List DT)(b2:List DT):M Bool:=
 cond ((!decide ((a1.length:Int)=(b2.length:Int))))
  (M.pure false)
  (M.bind (M.loop (Zo a1 b2) 0) (M.exk (fun _=>
  M.pure true)))
def VZ(a1:EV)(b2:EV):M Bool:=
 M.bind (cond (((decide (a1.dot.dev=b2.dot.dev)&&decide (a1.dot.n=b2.dot.n))))
  (cond (decide (a1.kind=b2.kind))
   (cond (decide (a1.cid=b2.cid))
    (cond (decide (a1.field=b2.field))
     (cond (decide (a1.text=b2.text))
      (M.bind (M.det (VY a1.kills b2.kills)) fun v9=>
      M.pure v9)
      (M.pure false))
     (M.pure false))
    (M.pure false))
   (M.pure false))
  (M.pure false)) (fun v3=>
 M.pure v3)
def XI(a1:List EV)(b2:List EV):Int->M (M.Step Int (M.Ex Unit Bool)):=fun i21=>
 cond ((decide (i21 < (a1.length:Int))))
  (M.bind (M.idx a1 i21) fun x23=>
  M.bind (M.idx b2 i21) fun x25=>
  M.bind (M.det (VZ x23 x25)) fun v27=>
  cond (!v27)
   (M.pure (.done (.ret false)))
   (M.pure (.next (IntKind.i64.wrap (i21+1)))))
  (M.pure (.done (.brk ())))
def jw(a1:List EV)(b2:List EV):M Bool:=
 cond ((!decide ((a1.length:Int)=(b2.length:Int))))
  (M.pure false)
  (M.bind (M.loop (XI a1 b2) 0) (M.exk (fun _=>
  M.pure true)))
def UE(a1:THubState)(b2:THubState):Int->M (M.Step Int (M.Ex Unit Bool)):=fun i30=>
 cond ((decide (i30 < (a1.tries.length:Int))))
  (M.bind (M.idx a1.tries i30) fun x32=>
  M.bind (M.idx b2.tries i30) fun x34=>
  cond (!decide (x32=x34))
   (M.pure (.done (.ret false)))
   (M.pure (.next (IntKind.i64.wrap (i30+1)))))
  (M.pure (.done (.brk ())))
def UF(a1:THubState)(b2:THubState):Int->M (M.Step Int (M.Ex Unit Bool)):=fun i66=>
 cond ((decide (i66 < (a1.rows.length:Int))))
  (M.bind (M.bind (M.idx a1.rows i66) fun x69=>
  M.bind (M.idx b2.rows i66) fun x71=>
  cond (!decide (x69.who=x71.who))
   (M.pure true)
   (M.bind (M.idx a1.rows i66) fun x74=>
   M.bind (M.idx b2.rows i66) fun x76=>
   M.bind (M.det (jO x74.have_ x76.have_)) fun v78=>
   M.pure (!v78))) (fun v68=>
  cond v68
   (M.pure (.done (.ret false)))
   (M.pure (.next (IntKind.i64.wrap (i66+1))))))
  (M.pure (.done (.brk ())))
def WF(a1:THubState)(b2:THubState):M Bool:=
 M.bind (cond (!decide (a1.epoch=b2.epoch))
  (M.pure true)
  (cond (!decide (a1.last=b2.last))
   (M.pure true)
   (M.bind (M.det (VX a1.members b2.members)) fun v6=>
   cond (!v6)
    (M.pure true)
    (cond ((!decide ((a1.tries.length:Int)=(b2.tries.length:Int))))
     (M.pure true)
     (cond ((!decide ((a1.rows.length:Int)=(b2.rows.length:Int))))
      (M.pure true)
      (M.bind (M.det (jO a1.ctx b2.ctx)) fun v11=>
      cond (!v11)
       (M.pure true)
       (M.bind (M.det (jw a1.all b2.all)) fun v14=>
       M.pure (!v14)))))))) (fun v3=>
 cond v3
  (M.pure false)
  (M.bind (M.loop (UE a1 b2) 0) (M.exk (fun _=>
  M.bind (M.loop (UF a1 b2) 0) (M.exk (fun _=>
  M.pure true))))))
def uF(s1:THubState)(b2:List Int):M Bool:=
 M.bind (M.bind (M.det (ju s1)) fun v4=>
 cond (!v4)
  (M.pure true)
  (M.pure ((decide (1500 < (b2.length:Int)))))) (fun v3=>
 cond v3
  (M.bind (M.det (YZ)) fun v8=>
  M.pure v8)
  (M.bind (M.det (ub s1)) fun v10=>
  M.bind (cond (decide (v10.2=0))
   (M.bind (M.det (ue v10.1)) fun v13=>
   M.bind (cond (!decide (v13.2=0))
    (M.pure true)
    (M.bind (M.det (WF s1 v13.1)) fun v17=>
    M.pure (!v17))) (fun v15=>
   cond v15
    (M.pure (.ret false))
    (M.pure (.brk ()))))
   (M.pure (.brk ()))) (M.exk (fun _=>
  M.bind (M.det (ue b2)) fun v20=>
  M.bind (cond (decide (v20.2=0))
   (M.bind (M.det (ub v20.1)) fun v23=>
   M.bind (cond (!decide (v23.2=0))
    (M.pure true)
    (M.bind (M.det (uc v23.1 b2)) fun v27=>
    M.pure (!v27))) (fun v25=>
   cond v25
    (M.pure (.ret false))
    (M.pure (.brk ()))))
   (M.pure (.brk ()))) (M.exk (fun _=>
  M.bind (M.det (YZ)) fun v30=>
  M.pure v30))))))
end Go.Ep
namespace Go.Proofs
open Go.Shelf
def Tryz.pdq120_ren : Go.Shelf.Ren:=⟨fun | 14=>120 | 20=>160 | 21=>161 | 22=>162 | 23=>163 | 24=>164 | 25=>165 | 26=>166 | 27=>167 | 46=>184 | 47=>185 | 48=>186 | 49=>187 | 50=>188 | 15=>121 | 57=>212 | 28=>168 | 29=>169 | n=>n,fun | 24=>59 | 22=>24 | 3=>3 | 25=>159 | 4=>4 | 0=>0 | 46=>225 | 45=>224 | 50=>229 | 66=>246 | 39=>183 | 55=>22 | 70=>249 | 76=>267 | 77=>268 | 53=>232 | 5=>5 | 9=>9 | n=>n,fun | n=>n⟩
theorem Tryz.pdq120 : Go.Proofs.SlLaysF0.n14 Tryz.prog Tryz.pdq120_ren:={
 mixed:=by kernel_rfl
 f14:=⟨Tryz.f120.name,by decide,Tryz.func120.trans (congrArg some (by kernel_rfl))⟩
 f15:=Tryz.func121.trans (congrArg some (by kernel_rfl))
 f20:=⟨Tryz.f160.name,by decide,Tryz.func160.trans (congrArg some (by kernel_rfl))⟩
 f21:=⟨Tryz.f161.name,by decide,Tryz.func161.trans (congrArg some (by kernel_rfl))⟩
 f22:=⟨Tryz.f162.name,by decide,Tryz.func162.trans (congrArg some (by kernel_rfl))⟩
 f23:=⟨Tryz.f163.name,by decide,Tryz.func163.trans (congrArg some (by kernel_rfl))⟩
 f24:=⟨Tryz.f164.name,by decide,Tryz.func164.trans (congrArg some (by kernel_rfl))⟩
 f25:=⟨Tryz.f165.name,by decide,Tryz.func165.trans (congrArg some (by kernel_rfl))⟩
 f26:=⟨Tryz.f166.name,by decide,Tryz.func166.trans (congrArg some (by kernel_rfl))⟩
 f27:=⟨Tryz.f167.name,by decide,Tryz.func167.trans (congrArg some (by kernel_rfl))⟩
 f28:=Tryz.func168.trans (congrArg some (by kernel_rfl))
 f29:=Tryz.func169.trans (congrArg some (by kernel_rfl))
 f46:=⟨Tryz.f184.name,by decide,Tryz.func184.trans (congrArg some (by kernel_rfl))⟩
 f47:=Tryz.func185.trans (congrArg some (by kernel_rfl))
 f48:=Tryz.func186.trans (congrArg some (by kernel_rfl))
 f49:=⟨Tryz.f187.name,by decide,Tryz.func187.trans (congrArg some (by kernel_rfl))⟩
 f50:=⟨Tryz.f188.name,by decide,Tryz.func188.trans (congrArg some (by kernel_rfl))⟩
 f57:=⟨Tryz.f212.name,by decide,Tryz.func212.trans (congrArg some (by kernel_rfl))⟩
 t0:=Tryz.underlying0
 a0:=Tryz.isAgg0
 z0:=Tryz.sizeOf0
 v0:=Tryz.zeroValue0
 t3:=Tryz.underlying3
 a3:=Tryz.isAgg3
 z3:=Tryz.sizeOf3
 v3:=Tryz.zeroValue3
 t4:=Tryz.underlying4
 a4:=Tryz.isAgg4
 z4:=Tryz.sizeOf4
 v4:=Tryz.zeroValue4
 t5:=Tryz.underlying5
 a5:=Tryz.isAgg5
 z5:=Tryz.sizeOf5
 v5:=Tryz.zeroValue5
 t9:=Tryz.underlying9
 a9:=Tryz.isAgg9
 z9:=Tryz.sizeOf9
 v9:=Tryz.zeroValue9
 t22:=Tryz.underlying24
 a22:=Tryz.isAgg24
 z22:=Tryz.sizeOf24
 v22:=Tryz.zeroValue24
 t25:=Tryz.underlying159
 a25:=Tryz.isAgg159
 z25:=Tryz.sizeOf159
 v25:=Tryz.zeroValue159
 t39:=Tryz.underlying183
 a39:=Tryz.isAgg183
 z39:=Tryz.sizeOf183
 v39:=Tryz.zeroValue183
 t45:=Tryz.underlying224
 a45:=Tryz.isAgg224
 z45:=Tryz.sizeOf224
 v45:=Tryz.zeroValue224
 t46:=Tryz.underlying225
 a46:=Tryz.isAgg225
 z46:=Tryz.sizeOf225
 v46:=Tryz.zeroValue225
 t50:=Tryz.underlying229
 a50:=Tryz.isAgg229
 z50:=Tryz.sizeOf229
 v50:=Tryz.zeroValue229
 t53:=Tryz.underlying232
 a53:=Tryz.isAgg232
 z53:=Tryz.sizeOf232
 v53:=Tryz.zeroValue232
 t55:=Tryz.underlying22
 a55:=Tryz.isAgg22
 z55:=Tryz.sizeOf22
 v55:=Tryz.zeroValue22
 t66:=Tryz.underlying246
 a66:=Tryz.isAgg246
 z66:=Tryz.sizeOf246
 v66:=Tryz.zeroValue246
 t70:=Tryz.underlying249
 a70:=Tryz.isAgg249
 z70:=Tryz.sizeOf249
 v70:=Tryz.zeroValue249
 t76:=Tryz.underlying267
 a76:=Tryz.isAgg267
 z76:=Tryz.sizeOf267
 v76:=Tryz.zeroValue267
 t77:=Tryz.underlying268
 a77:=Tryz.isAgg268
 z77:=Tryz.sizeOf268
 v77:=Tryz.zeroValue268 }
def Tryz.pdq171_ren : Go.Shelf.Ren:=⟨fun | 14=>171 | 20=>189 | 21=>190 | 22=>191 | 23=>192 | 24=>193 | 25=>194 | 26=>195 | 27=>196 | 46=>213 | 47=>185 | 48=>186 | 49=>214 | 50=>215 | 15=>121 | 57=>239 | 28=>168 | 29=>169 | n=>n,fun | 24=>104 | 22=>29 | 3=>3 | 25=>197 | 4=>4 | 0=>0 | 46=>225 | 45=>224 | 50=>229 | 66=>246 | 39=>183 | 55=>22 | 70=>249 | 76=>267 | 77=>268 | 53=>232 | 5=>5 | 9=>9 | n=>n,fun | n=>n⟩
theorem Tryz.pdq171 : Go.Proofs.SlLaysF0.n14 Tryz.prog Tryz.pdq171_ren:={
 mixed:=by kernel_rfl
 f14:=⟨Tryz.f171.name,by decide,Tryz.func171.trans (congrArg some (by kernel_rfl))⟩
 f15:=Tryz.func121.trans (congrArg some (by kernel_rfl))
 f20:=⟨Tryz.f189.name,by decide,Tryz.func189.trans (congrArg some (by kernel_rfl))⟩
 f21:=⟨Tryz.f190.name,by decide,Tryz.func190.trans (congrArg some (by kernel_rfl))⟩
 f22:=⟨Tryz.f191.name,by decide,Tryz.func191.trans (congrArg some (by kernel_rfl))⟩
 f23:=⟨Tryz.f192.name,by decide,Tryz.func192.trans (congrArg some (by kernel_rfl))⟩
 f24:=⟨Tryz.f193.name,by decide,Tryz.func193.trans (congrArg some (by kernel_rfl))⟩
 f25:=⟨Tryz.f194.name,by decide,Tryz.func194.trans (congrArg some (by kernel_rfl))⟩
 f26:=⟨Tryz.f195.name,by decide,Tryz.func195.trans (congrArg some (by kernel_rfl))⟩
 f27:=⟨Tryz.f196.name,by decide,Tryz.func196.trans (congrArg some (by kernel_rfl))⟩
 f28:=Tryz.func168.trans (congrArg some (by kernel_rfl))
 f29:=Tryz.func169.trans (congrArg some (by kernel_rfl))
 f46:=⟨Tryz.f213.name,by decide,Tryz.func213.trans (congrArg some (by kernel_rfl))⟩
 f47:=Tryz.func185.trans (congrArg some (by kernel_rfl))
 f48:=Tryz.func186.trans (congrArg some (by kernel_rfl))
 f49:=⟨Tryz.f214.name,by decide,Tryz.func214.trans (congrArg some (by kernel_rfl))⟩
 f50:=⟨Tryz.f215.name,by decide,Tryz.func215.trans (congrArg some (by kernel_rfl))⟩
 f57:=⟨Tryz.f239.name,by decide,Tryz.func239.trans (congrArg some (by kernel_rfl))⟩
 t0:=Tryz.underlying0
 a0:=Tryz.isAgg0
 z0:=Tryz.sizeOf0
 v0:=Tryz.zeroValue0
 t3:=Tryz.underlying3
 a3:=Tryz.isAgg3
 z3:=Tryz.sizeOf3
 v3:=Tryz.zeroValue3
 t4:=Tryz.underlying4
 a4:=Tryz.isAgg4
 z4:=Tryz.sizeOf4
 v4:=Tryz.zeroValue4
 t5:=Tryz.underlying5
 a5:=Tryz.isAgg5
 z5:=Tryz.sizeOf5
 v5:=Tryz.zeroValue5
 t9:=Tryz.underlying9
 a9:=Tryz.isAgg9
 z9:=Tryz.sizeOf9
 v9:=Tryz.zeroValue9
 t22:=Tryz.underlying29
 a22:=Tryz.isAgg29
 z22:=Tryz.sizeOf29
 v22:=Tryz.zeroValue29
 t25:=Tryz.underlying197
 a25:=Tryz.isAgg197
 z25:=Tryz.sizeOf197
 v25:=Tryz.zeroValue197
 t39:=Tryz.underlying183
 a39:=Tryz.isAgg183
 z39:=Tryz.sizeOf183
 v39:=Tryz.zeroValue183
 t45:=Tryz.underlying224
 a45:=Tryz.isAgg224
 z45:=Tryz.sizeOf224
 v45:=Tryz.zeroValue224
 t46:=Tryz.underlying225
 a46:=Tryz.isAgg225
 z46:=Tryz.sizeOf225
 v46:=Tryz.zeroValue225
 t50:=Tryz.underlying229
 a50:=Tryz.isAgg229
 z50:=Tryz.sizeOf229
 v50:=Tryz.zeroValue229
 t53:=Tryz.underlying232
 a53:=Tryz.isAgg232
 z53:=Tryz.sizeOf232
 v53:=Tryz.zeroValue232
 t55:=Tryz.underlying22
 a55:=Tryz.isAgg22
 z55:=Tryz.sizeOf22
 v55:=Tryz.zeroValue22
 t66:=Tryz.underlying246
 a66:=Tryz.isAgg246
 z66:=Tryz.sizeOf246
 v66:=Tryz.zeroValue246
 t70:=Tryz.underlying249
 a70:=Tryz.isAgg249
 z70:=Tryz.sizeOf249
 v70:=Tryz.zeroValue249
 t76:=Tryz.underlying267
 a76:=Tryz.isAgg267
 z76:=Tryz.sizeOf267
 v76:=Tryz.zeroValue267
 t77:=Tryz.underlying268
 a77:=Tryz.isAgg268
 z77:=Tryz.sizeOf268
 v77:=Tryz.zeroValue268 }
def Tryz.pdq177_ren : Go.Shelf.Ren:=⟨fun | 14=>177 | 20=>201 | 21=>202 | 22=>203 | 23=>204 | 24=>205 | 25=>206 | 26=>207 | 27=>208 | 46=>227 | 47=>185 | 48=>186 | 49=>228 | 50=>229 | 15=>121 | 57=>246 | 28=>168 | 29=>169 | n=>n,fun | 24=>99 | 22=>27 | 3=>3 | 25=>206 | 4=>4 | 0=>0 | 46=>225 | 45=>224 | 50=>229 | 66=>246 | 39=>183 | 55=>22 | 70=>249 | 76=>267 | 77=>268 | 53=>232 | 5=>5 | 9=>9 | n=>n,fun | n=>n⟩
theorem Tryz.pdq177 : Go.Proofs.SlLaysF0.n14 Tryz.prog Tryz.pdq177_ren:={
 mixed:=by kernel_rfl
 f14:=⟨Tryz.f177.name,by decide,Tryz.func177.trans (congrArg some (by kernel_rfl))⟩
 f15:=Tryz.func121.trans (congrArg some (by kernel_rfl))
 f20:=⟨Tryz.f201.name,by decide,Tryz.func201.trans (congrArg some (by kernel_rfl))⟩
 f21:=⟨Tryz.f202.name,by decide,Tryz.func202.trans (congrArg some (by kernel_rfl))⟩
 f22:=⟨Tryz.f203.name,by decide,Tryz.func203.trans (congrArg some (by kernel_rfl))⟩
 f23:=⟨Tryz.f204.name,by decide,Tryz.func204.trans (congrArg some (by kernel_rfl))⟩
 f24:=⟨Tryz.f205.name,by decide,Tryz.func205.trans (congrArg some (by kernel_rfl))⟩
 f25:=⟨Tryz.f206.name,by decide,Tryz.func206.trans (congrArg some (by kernel_rfl))⟩
 f26:=⟨Tryz.f207.name,by decide,Tryz.func207.trans (congrArg some (by kernel_rfl))⟩
 f27:=⟨Tryz.f208.name,by decide,Tryz.func208.trans (congrArg some (by kernel_rfl))⟩
 f28:=Tryz.func168.trans (congrArg some (by kernel_rfl))
 f29:=Tryz.func169.trans (congrArg some (by kernel_rfl))
 f46:=⟨Tryz.f227.name,by decide,Tryz.func227.trans (congrArg some (by kernel_rfl))⟩
 f47:=Tryz.func185.trans (congrArg some (by kernel_rfl))
 f48:=Tryz.func186.trans (congrArg some (by kernel_rfl))
 f49:=⟨Tryz.f228.name,by decide,Tryz.func228.trans (congrArg some (by kernel_rfl))⟩
 f50:=⟨Tryz.f229.name,by decide,Tryz.func229.trans (congrArg some (by kernel_rfl))⟩
 f57:=⟨Tryz.f246.name,by decide,Tryz.func246.trans (congrArg some (by kernel_rfl))⟩
 t0:=Tryz.underlying0
 a0:=Tryz.isAgg0
 z0:=Tryz.sizeOf0
 v0:=Tryz.zeroValue0
 t3:=Tryz.underlying3
 a3:=Tryz.isAgg3
 z3:=Tryz.sizeOf3
 v3:=Tryz.zeroValue3
 t4:=Tryz.underlying4
 a4:=Tryz.isAgg4
 z4:=Tryz.sizeOf4
 v4:=Tryz.zeroValue4
 t5:=Tryz.underlying5
 a5:=Tryz.isAgg5
 z5:=Tryz.sizeOf5
 v5:=Tryz.zeroValue5
 t9:=Tryz.underlying9
 a9:=Tryz.isAgg9
 z9:=Tryz.sizeOf9
 v9:=Tryz.zeroValue9
 t22:=Tryz.underlying27
 a22:=Tryz.isAgg27
 z22:=Tryz.sizeOf27
 v22:=Tryz.zeroValue27
 t25:=Tryz.underlying206
 a25:=Tryz.isAgg206
 z25:=Tryz.sizeOf206
 v25:=Tryz.zeroValue206
 t39:=Tryz.underlying183
 a39:=Tryz.isAgg183
 z39:=Tryz.sizeOf183
 v39:=Tryz.zeroValue183
 t45:=Tryz.underlying224
 a45:=Tryz.isAgg224
 z45:=Tryz.sizeOf224
 v45:=Tryz.zeroValue224
 t46:=Tryz.underlying225
 a46:=Tryz.isAgg225
 z46:=Tryz.sizeOf225
 v46:=Tryz.zeroValue225
 t50:=Tryz.underlying229
 a50:=Tryz.isAgg229
 z50:=Tryz.sizeOf229
 v50:=Tryz.zeroValue229
 t53:=Tryz.underlying232
 a53:=Tryz.isAgg232
 z53:=Tryz.sizeOf232
 v53:=Tryz.zeroValue232
 t55:=Tryz.underlying22
 a55:=Tryz.isAgg22
 z55:=Tryz.sizeOf22
 v55:=Tryz.zeroValue22
 t66:=Tryz.underlying246
 a66:=Tryz.isAgg246
 z66:=Tryz.sizeOf246
 v66:=Tryz.zeroValue246
 t70:=Tryz.underlying249
 a70:=Tryz.isAgg249
 z70:=Tryz.sizeOf249
 v70:=Tryz.zeroValue249
 t76:=Tryz.underlying267
 a76:=Tryz.isAgg267
 z76:=Tryz.sizeOf267
 v76:=Tryz.zeroValue267
 t77:=Tryz.underlying268
 a77:=Tryz.isAgg268
 z77:=Tryz.sizeOf268
 v77:=Tryz.zeroValue268 }
def Tryz.pdq200_ren : Go.Shelf.Ren:=⟨fun | 14=>200 | 20=>219 | 21=>220 | 22=>221 | 23=>222 | 24=>223 | 25=>224 | 26=>225 | 27=>226 | 46=>243 | 47=>185 | 48=>186 | 49=>244 | 50=>245 | 15=>121 | 57=>250 | 28=>168 | 29=>169 | n=>n,fun | 24=>124 | 22=>97 | 3=>3 | 25=>239 | 4=>4 | 0=>0 | 46=>225 | 45=>224 | 50=>229 | 66=>246 | 39=>183 | 55=>22 | 70=>249 | 76=>267 | 77=>268 | 53=>232 | 5=>5 | 9=>9 | n=>n,fun | n=>n⟩
theorem Tryz.pdq200 : Go.Proofs.SlLaysF0.n14 Tryz.prog Tryz.pdq200_ren:={
 mixed:=by kernel_rfl
 f14:=⟨Tryz.f200.name,by decide,Tryz.func200.trans (congrArg some (by kernel_rfl))⟩
 f15:=Tryz.func121.trans (congrArg some (by kernel_rfl))
 f20:=⟨Tryz.f219.name,by decide,Tryz.func219.trans (congrArg some (by kernel_rfl))⟩
 f21:=⟨Tryz.f220.name,by decide,Tryz.func220.trans (congrArg some (by kernel_rfl))⟩
 f22:=⟨Tryz.f221.name,by decide,Tryz.func221.trans (congrArg some (by kernel_rfl))⟩
 f23:=⟨Tryz.f222.name,by decide,Tryz.func222.trans (congrArg some (by kernel_rfl))⟩
 f24:=⟨Tryz.f223.name,by decide,Tryz.func223.trans (congrArg some (by kernel_rfl))⟩
 f25:=⟨Tryz.f224.name,by decide,Tryz.func224.trans (congrArg some (by kernel_rfl))⟩
 f26:=⟨Tryz.f225.name,by decide,Tryz.func225.trans (congrArg some (by kernel_rfl))⟩
 f27:=⟨Tryz.f226.name,by decide,Tryz.func226.trans (congrArg some (by kernel_rfl))⟩
 f28:=Tryz.func168.trans (congrArg some (by kernel_rfl))
 f29:=Tryz.func169.trans (congrArg some (by kernel_rfl))
 f46:=⟨Tryz.f243.name,by decide,Tryz.func243.trans (congrArg some (by kernel_rfl))⟩
 f47:=Tryz.func185.trans (congrArg some (by kernel_rfl))
 f48:=Tryz.func186.trans (congrArg some (by kernel_rfl))
 f49:=⟨Tryz.f244.name,by decide,Tryz.func244.trans (congrArg some (by kernel_rfl))⟩
 f50:=⟨Tryz.f245.name,by decide,Tryz.func245.trans (congrArg some (by kernel_rfl))⟩
 f57:=⟨Tryz.f250.name,by decide,Tryz.func250.trans (congrArg some (by kernel_rfl))⟩
 t0:=Tryz.underlying0
 a0:=Tryz.isAgg0
 z0:=Tryz.sizeOf0
 v0:=Tryz.zeroValue0
 t3:=Tryz.underlying3
 a3:=Tryz.isAgg3
 z3:=Tryz.sizeOf3
 v3:=Tryz.zeroValue3
 t4:=Tryz.underlying4
 a4:=Tryz.isAgg4
 z4:=Tryz.sizeOf4
 v4:=Tryz.zeroValue4
 t5:=Tryz.underlying5
 a5:=Tryz.isAgg5
 z5:=Tryz.sizeOf5
 v5:=Tryz.zeroValue5
 t9:=Tryz.underlying9
 a9:=Tryz.isAgg9
 z9:=Tryz.sizeOf9
 v9:=Tryz.zeroValue9
 t22:=Tryz.underlying97
 a22:=Tryz.isAgg97
 z22:=Tryz.sizeOf97
 v22:=Tryz.zeroValue97
 t25:=Tryz.underlying239
 a25:=Tryz.isAgg239
 z25:=Tryz.sizeOf239
 v25:=Tryz.zeroValue239
 t39:=Tryz.underlying183
 a39:=Tryz.isAgg183
 z39:=Tryz.sizeOf183
 v39:=Tryz.zeroValue183
 t45:=Tryz.underlying224
 a45:=Tryz.isAgg224
 z45:=Tryz.sizeOf224
 v45:=Tryz.zeroValue224
 t46:=Tryz.underlying225
 a46:=Tryz.isAgg225
 z46:=Tryz.sizeOf225
 v46:=Tryz.zeroValue225
 t50:=Tryz.underlying229
 a50:=Tryz.isAgg229
 z50:=Tryz.sizeOf229
 v50:=Tryz.zeroValue229
 t53:=Tryz.underlying232
 a53:=Tryz.isAgg232
 z53:=Tryz.sizeOf232
 v53:=Tryz.zeroValue232
 t55:=Tryz.underlying22
 a55:=Tryz.isAgg22
 z55:=Tryz.sizeOf22
 v55:=Tryz.zeroValue22
 t66:=Tryz.underlying246
 a66:=Tryz.isAgg246
 z66:=Tryz.sizeOf246
 v66:=Tryz.zeroValue246
 t70:=Tryz.underlying249
 a70:=Tryz.isAgg249
 z70:=Tryz.sizeOf249
 v70:=Tryz.zeroValue249
 t76:=Tryz.underlying267
 a76:=Tryz.isAgg267
 z76:=Tryz.sizeOf267
 v76:=Tryz.zeroValue267
 t77:=Tryz.underlying268
 a77:=Tryz.isAgg268
 z77:=Tryz.sizeOf268
 v77:=Tryz.zeroValue268 }
def Tryz.pdq209_ren : Go.Shelf.Ren:=⟨fun | 14=>209 | 20=>230 | 21=>231 | 22=>232 | 23=>233 | 24=>234 | 25=>235 | 26=>236 | 27=>237 | 46=>247 | 47=>185 | 48=>186 | 49=>248 | 50=>249 | 15=>121 | 57=>251 | 28=>168 | 29=>169 | n=>n,fun | 24=>101 | 22=>102 | 3=>3 | 25=>142 | 4=>4 | 0=>0 | 46=>225 | 45=>224 | 50=>229 | 66=>246 | 39=>183 | 55=>22 | 70=>249 | 76=>267 | 77=>268 | 53=>232 | 5=>5 | 9=>9 | n=>n,fun | n=>n⟩
theorem Tryz.pdq209 : Go.Proofs.SlLaysF0.n14 Tryz.prog Tryz.pdq209_ren:={
 mixed:=by kernel_rfl
 f14:=⟨Tryz.f209.name,by decide,Tryz.func209.trans (congrArg some (by kernel_rfl))⟩
 f15:=Tryz.func121.trans (congrArg some (by kernel_rfl))
 f20:=⟨Tryz.f230.name,by decide,Tryz.func230.trans (congrArg some (by kernel_rfl))⟩
 f21:=⟨Tryz.f231.name,by decide,Tryz.func231.trans (congrArg some (by kernel_rfl))⟩
 f22:=⟨Tryz.f232.name,by decide,Tryz.func232.trans (congrArg some (by kernel_rfl))⟩
 f23:=⟨Tryz.f233.name,by decide,Tryz.func233.trans (congrArg some (by kernel_rfl))⟩
 f24:=⟨Tryz.f234.name,by decide,Tryz.func234.trans (congrArg some (by kernel_rfl))⟩
 f25:=⟨Tryz.f235.name,by decide,Tryz.func235.trans (congrArg some (by kernel_rfl))⟩
 f26:=⟨Tryz.f236.name,by decide,Tryz.func236.trans (congrArg some (by kernel_rfl))⟩
 f27:=⟨Tryz.f237.name,by decide,Tryz.func237.trans (congrArg some (by kernel_rfl))⟩
 f28:=Tryz.func168.trans (congrArg some (by kernel_rfl))
 f29:=Tryz.func169.trans (congrArg some (by kernel_rfl))
 f46:=⟨Tryz.f247.name,by decide,Tryz.func247.trans (congrArg some (by kernel_rfl))⟩
 f47:=Tryz.func185.trans (congrArg some (by kernel_rfl))
 f48:=Tryz.func186.trans (congrArg some (by kernel_rfl))
 f49:=⟨Tryz.f248.name,by decide,Tryz.func248.trans (congrArg some (by kernel_rfl))⟩
 f50:=⟨Tryz.f249.name,by decide,Tryz.func249.trans (congrArg some (by kernel_rfl))⟩
 f57:=⟨Tryz.f251.name,by decide,Tryz.func251.trans (congrArg some (by kernel_rfl))⟩
 t0:=Tryz.underlying0
 a0:=Tryz.isAgg0
 z0:=Tryz.sizeOf0
 v0:=Tryz.zeroValue0
 t3:=Tryz.underlying3
 a3:=Tryz.isAgg3
 z3:=Tryz.sizeOf3
 v3:=Tryz.zeroValue3
 t4:=Tryz.underlying4
 a4:=Tryz.isAgg4
 z4:=Tryz.sizeOf4
 v4:=Tryz.zeroValue4
 t5:=Tryz.underlying5
 a5:=Tryz.isAgg5
 z5:=Tryz.sizeOf5
 v5:=Tryz.zeroValue5
 t9:=Tryz.underlying9
 a9:=Tryz.isAgg9
 z9:=Tryz.sizeOf9
 v9:=Tryz.zeroValue9
 t22:=Tryz.underlying102
 a22:=Tryz.isAgg102
 z22:=Tryz.sizeOf102
 v22:=Tryz.zeroValue102
 t25:=Tryz.underlying142
 a25:=Tryz.isAgg142
 z25:=Tryz.sizeOf142
 v25:=Tryz.zeroValue142
 t39:=Tryz.underlying183
 a39:=Tryz.isAgg183
 z39:=Tryz.sizeOf183
 v39:=Tryz.zeroValue183
 t45:=Tryz.underlying224
 a45:=Tryz.isAgg224
 z45:=Tryz.sizeOf224
 v45:=Tryz.zeroValue224
 t46:=Tryz.underlying225
 a46:=Tryz.isAgg225
 z46:=Tryz.sizeOf225
 v46:=Tryz.zeroValue225
 t50:=Tryz.underlying229
 a50:=Tryz.isAgg229
 z50:=Tryz.sizeOf229
 v50:=Tryz.zeroValue229
 t53:=Tryz.underlying232
 a53:=Tryz.isAgg232
 z53:=Tryz.sizeOf232
 v53:=Tryz.zeroValue232
 t55:=Tryz.underlying22
 a55:=Tryz.isAgg22
 z55:=Tryz.sizeOf22
 v55:=Tryz.zeroValue22
 t66:=Tryz.underlying246
 a66:=Tryz.isAgg246
 z66:=Tryz.sizeOf246
 v66:=Tryz.zeroValue246
 t70:=Tryz.underlying249
 a70:=Tryz.isAgg249
 z70:=Tryz.sizeOf249
 v70:=Tryz.zeroValue249
 t76:=Tryz.underlying267
 a76:=Tryz.isAgg267
 z76:=Tryz.sizeOf267
 v76:=Tryz.zeroValue267
 t77:=Tryz.underlying268
 a77:=Tryz.isAgg268
 z77:=Tryz.sizeOf268
 v77:=Tryz.zeroValue268 }
def Tryz.bits121_ren : Go.Shelf.Ren:=⟨fun | 15=>121 | 28=>168 | 29=>169 | n=>n,fun | 39=>183 | 3=>3 | 53=>232 | 55=>22 | 4=>4 | 5=>5 | 9=>9 | n=>n,fun | n=>n⟩
theorem Tryz.bits121 : Go.Proofs.SlLaysF0.n15 Tryz.prog Tryz.bits121_ren:={
 mixed:=by kernel_rfl
 f15:=Tryz.func121.trans (congrArg some (by kernel_rfl))
 f28:=Tryz.func168.trans (congrArg some (by kernel_rfl))
 f29:=Tryz.func169.trans (congrArg some (by kernel_rfl))
 t3:=Tryz.underlying3
 a3:=Tryz.isAgg3
 z3:=Tryz.sizeOf3
 v3:=Tryz.zeroValue3
 t4:=Tryz.underlying4
 a4:=Tryz.isAgg4
 z4:=Tryz.sizeOf4
 v4:=Tryz.zeroValue4
 t5:=Tryz.underlying5
 a5:=Tryz.isAgg5
 z5:=Tryz.sizeOf5
 v5:=Tryz.zeroValue5
 t9:=Tryz.underlying9
 a9:=Tryz.isAgg9
 z9:=Tryz.sizeOf9
 v9:=Tryz.zeroValue9
 t39:=Tryz.underlying183
 a39:=Tryz.isAgg183
 z39:=Tryz.sizeOf183
 v39:=Tryz.zeroValue183
 t53:=Tryz.underlying232
 a53:=Tryz.isAgg232
 z53:=Tryz.sizeOf232
 v53:=Tryz.zeroValue232
 t55:=Tryz.underlying22
 a55:=Tryz.isAgg22
 z55:=Tryz.sizeOf22
 v55:=Tryz.zeroValue22 }
end Go.Proofs
namespace Go.Ep
open Go.Shelf Go.RowKit Go.Lib Go.Sort Go.Proofs
theorem SortLaw.of{α:Type}[Inhabited α]{P:Program}{f g:FuncId}{k:Nat}{enc:α->List Value}{lt:α->α->Bool}{cf:α->α->Int}(hO:SWO (ltOf cf))(hlt:∀ x y,ltOf cf x y=lt x y)(hk:∀ x,(enc x).length=k)
  (hnil:∀ w:World,Calls P f #[.slice none 0 0,.func (.func g) #[] #[]] w fun e w'=>e=.returned (.tuple #[])/\Go.RowKit.Below w.heap.size w w')
  (hrow:∀ (blk off cap:Nat) (d:Array α) (w:World),HoldsK enc k w blk off d->blk < w.heap.size->d.size < 4611686018427387904 ->
   Calls P f #[.slice (some ⟨blk,off,none⟩) d.size cap,.func (.func g) #[] #[]] w fun e w'=>e=.returned (.tuple #[])/\∃ n os,w'=sortWorldK enc k w blk off n (pdq (ltOf cf) d 0 d.size (Lib.bitLen d.size) true true) os):SortLaw P f g k enc lt:=by
 refine⟨hnil,fun w blk cap l T cur hh hlc hcs hlen hcells=>?_⟩;have hblk:blk < w.heap.size:=(Array.getElem?_eq_some_iff.1 hh).1;have hH:HoldsK enc k w blk 0 l.toArray:=by
  intro j hj;rw[size_flatK] at hj;have hj':j < l.length*k:=by simpa using hj
  obtain⟨hk0,h1,h2,h3⟩:=Xo hj'
  constructor
  ·rw[Nat.zero_add,zf hh];show _=some ((flatK enc k l.toArray)[j]!);rw[get_flatK _ _ _ _ hj];have hx:l[j / k]?=some l[j / k]:=List.getElem?_eq_getElem h1;have hlk:(enc l[j / k]).length=k:=hk _;have hu:(enc l[j / k])[j % k]?=some ((enc l[j / k])[j % k]'(by omega)):=List.getElem?_eq_getElem (by omega);have:=hcells (j / k) _ (j % k) _ hx hu;rw[h3] at this;rw[this];have e1:(l.toArray)[j / k]! = l[j / k]:=by simp[h1]
   rw[e1];simp[hu]
  ·simp[World.frozen?,hh]
 have hd:l.toArray.size=l.length:=by simp
 have hcall:=hrow blk 0 cap l.toArray w hH hblk (by simpa using hlen);rw[hd] at hcall;refine hcall.mono fun e w' ⟨he,n,os,hw⟩=>⟨he,?_⟩
 have hp:=pdq_sorts (ltOf cf) hO l.toArray 0 l.toArray.size (Lib.bitLen l.toArray.size) true true (Nat.zero_le _) (Nat.le_refl _) (Or.inl rfl);rw[hd] at hp
 generalize pdq (ltOf cf) l.toArray 0 l.length (Lib.bitLen l.length) true true=d' at hp hw
 obtain⟨⟨hsz,_,hperm⟩,hsort⟩:=hp;have hsz':d'.size=l.length:=by simpa using hsz
 have hp':d'.toList.Perm l:=by
  have e1:(d'.extract 0 l.length).toList=d'.toList:=by rw[<- hsz'];simp
  have e2:(l.toArray.extract 0 l.length).toList=l:=by simp
  rw[e1,e2] at hperm;exact hperm
 have hmod:∀ b,b < w.heap.size->(sortWorldK enc k w blk 0 n d' os).heap[b]?=if blk=b then (w.heap[b]?).map (onCells (putCells id 0 (flatK enc k d'))) else w.heap[b]?:=by
  intro b hb;have hb2:b < (putRowK enc k (Sort.ahead w n) blk 0 d').heap.size:=by simpa[putRowK,Sort.ahead] using hb
  show(grow (putRowK enc k (Sort.ahead w n) blk 0 d') os).heap[b]?=_;rw[Sort.heap_grow_old _ _ hb2];show((w.heap.modify blk (onCells (putCells id 0 (flatK enc k d')))))[b]?=_;rw[Array.getElem?_modify]
 subst hw;refine⟨d'.toList,(putCells id 0 (flatK enc k d') cur.toArray).toList,hp',?_,?_,?_,?_,rfl,rfl,rfl,?_,?_⟩
 ·rw[List.pairwise_iff_getElem];intro i j hi hj hij;have:=hsort i j (Nat.zero_le _) hij (by simpa[hsz'] using hj);rw[hlt] at this;have hi':i < d'.size:=by simpa using hi
  have hj':j < d'.size:=by simpa using hj
  simpa[hi',hj'] using this
 ·rw[hmod blk hblk,if_pos rfl,hh];simp[onCells]
 ·simp[putCells]
 ·intro i x j u hi hu;have hi':i < l.length:=by rw[<- hsz'];have:=(List.getElem?_eq_some_iff.1 hi).1;simpa using this
  have hj:j < k:=by rw[<- hk x];exact(List.getElem?_eq_some_iff.1 hu).1
  have hlt2:i*k+j < l.length*k:=uS hi' hj;have hcl:l.length*k<=cur.length:=by rw[hcs];exact Nat.mul_le_mul_right k hlc
  have hin:i*k+j < d'.size*k:=by rw[hsz'];exact hlt2
  have hget:(flatK enc k d')[i*k+j]! = u:=by
   rw[get_flatK _ _ _ _ hin];have hk0:0 < k:=by omega
   have e1:(i*k+j) / k=i:=by rw[Nat.mul_comm,Nat.mul_add_div hk0,Nat.div_eq_of_lt hj];omega
   have e2:(i*k+j) % k=j:=by rw[Nat.mul_comm,Nat.mul_add_mod,Nat.mod_eq_of_lt hj]
   rw[e1,e2];have e3:d'[i]! = x:=by
    obtain⟨h1,h2⟩:=List.getElem?_eq_some_iff.1 hi;have h1':i < d'.size:=by simpa using h1
    rw[getElem!_pos d' i h1'];simpa using h2
   rw[e3];simp[hu]
  have hc2:i*k+j < cur.length:=by omega
  simp only[putCells,Array.toList_mapIdx,List.getElem?_mapIdx];rw[List.getElem?_eq_getElem hc2];simp only[Option.map_some,id];rw[if_pos ⟨Nat.zero_le _,by rw[size_flatK];omega⟩,Nat.sub_zero,hget]
 ·show w.heap.size<=(grow (putRowK enc k (Sort.ahead w n) blk 0 d') os).heap.size;simp[grow,putRowK,Sort.ahead]
 ·intro b hb hne;rw[hmod b hb,if_neg (Ne.symm hne)]
end Go.Ep
