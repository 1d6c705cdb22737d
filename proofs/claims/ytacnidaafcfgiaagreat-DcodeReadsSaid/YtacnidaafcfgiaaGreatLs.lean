/- Structs of one's own whose cells hold rows of one's own: built with nil, appended to, frozen; parts of elements. No program in sight. -/
import Derived.Test.YtacnidaafcfgiaaGreatMp
import Derived.Test.YtacnidaafcfgiaaGreatOe
namespace Go.Ep
open Go.RowKit
section
variable {P : Program} {ctx : Ctx} {s : PState}
variable {dst : Option Tmp} {ty : TypeId} {pos : String} {after : Array Edge} {gd : Option (Nat × Bool)}
/-- A struct built, what is left out as it lies. -/
theorem LR.buildR {t : TypeId} {places : List (Nat × Nat)} {zs : List Value} {parts : Array (Nat × Operand)} {ps : List (Nat × PV)} {ns : List PV} (hB : BuildOK P t places zs) (hz1 : (zs.all Value.oneCell') = true) (hps : s.evp parts.toList = some ps) (hns : pfill places (zs.map fun z => PV.d (.v z)) ps = some ns) :
    Local P ctx ⟨dst, .build t parts, ty, pos, after, gd⟩ s (s.putD dst (.agg ns)) :=
  local_pure (o := ⟨dst, .build t parts, ty, pos, after, gd⟩) fun a w g hg => by
    have hz1' : ∀ u ∈ zs, u.oneCell' = true := by simpa using hz1
    obtain ⟨vs, h1, h2, h3, h4⟩ := fill_rd (w := w) (g := g) (S := Free ctx g s.objs) ps (parts.toList.map fun x => (x.1, a.eval x.2)) (zs.map fun z => PV.d (.v z)) zs ns (by simpa using evp_len hps) (by
      intro j p r hp hr
      rw [List.getElem?_map] at hr
      cases hx : parts.toList[j]? with
      | none => simp [hx] at hr
      | some x =>
        simp [hx] at hr
        subst hr
        obtain ⟨e1, e2⟩ := evp_get hps hp hx
        exact ⟨e1, hg.ev e2⟩) (by simp) (by
      intro i p u hp hu
      simp [hu] at hp
      subst hp
      exact .d (.v u (hz1' u (List.mem_of_getElem? hu)))) hz1' hns
    refine ⟨.agg vs.toArray, ?_, .agg ns vs h2 h3 h4⟩
    have hb : P.built t (parts.map fun (i, x) => (i, a.eval x)).toList = some vs.toArray := by
      rw [hB]; simpa using h1
    have hrun := run_build w t (parts.map fun (i, x) => (i, a.eval x)) vs.toArray hb
    simp only [execOp, Sem.run_bind, hrun, Result.andThen_ok, Sem.run_pure]
/-- A part of an element of a row of one's own. -/
theorem LR.loadRpPart {x : Operand} {id i o m k : Nat} {T T0 : TypeId} {l : List (List DV)} {cs ys : List DV} (ha : ∀ w, (isAgg T).run P w = .ok true w) (hs : ∀ w, (sizeOf T).run P w = .ok m w) (hx : s.ev x = some (.rp id i o k)) (hl : look s.objs id = some (.row T0 k l)) (hi : l[i]? = some cs) (hm : o + m ≤ k) (hy : (cs.drop o).take m = ys) :
    Local P ctx ⟨dst, .load T x, ty, pos, after, gd⟩ s (s.putD dst (.agg (ys.map .d))) :=
  local_pure (o := ⟨dst, .load T x, ty, pos, after, gd⟩) fun a w g hg => by
    subst hy
    have h := hg.ev hx
    generalize hv : a.eval x = v at h
    cases h with
    | rp _ _ _ _ blk cap hgi =>
      obtain ⟨hlen, c, hc⟩ := row_cell (hg.objs id _ hl) hgi hi
      let us : List Value := (List.range m).map fun j => c (o + j)
      have hul : us.length = m := by simp [us]
      have hcj : ∀ j, j < m → ∃ x, cs[o + j]? = some x ∧ w.cell? ⟨blk, i * k + (o + j), none⟩ = some (c (o + j)) ∧ DRd w (Free ctx g s.objs) x (c (o + j)) := fun j hj => by
        have : o + j < cs.length := by omega
        exact ⟨cs[o + j], List.getElem?_eq_getElem this, hc _ _ (List.getElem?_eq_getElem this)⟩
      refine ⟨.agg us.toArray, ?_, .agg _ _ (by rw [List.length_map, hul, List.length_take, List.length_drop]; omega) ?_ ?_⟩
      · have := run_loadAgg (P := P) (us := us) ha (by rw [hul]; exact hs) (w := w) (b := blk) (o := i * k + o) (fun j u hu => by
          have hj : j < m := by rw [← hul]; exact (List.getElem?_eq_some_iff.1 hu).1
          have : u = c (o + j) := by simp [us, hj] at hu; exact hu.symm
          rw [this, Nat.add_assoc]
          exact (hcj j hj).choose_spec.2.1)
        simp [execOp, hv, Instr.loadAt, Instr.sureAddr, this, Result.andThen]
      · intro j p u hp hu
        have hj : j < m := by rw [← hul]; exact (List.getElem?_eq_some_iff.1 hu).1
        have hu' : u = c (o + j) := by simp [us, hj] at hu; exact hu.symm
        obtain ⟨x, hx, _, hd⟩ := hcj j hj
        rw [List.getElem?_map, List.getElem?_take, if_pos hj, List.getElem?_drop, hx] at hp
        simp only [Option.map_some, Option.some.injEq] at hp
        subst hp
        rw [hu']
        exact .d hd
      · intro u hu
        simp only [us, List.mem_map, List.mem_range] at hu
        obtain ⟨j, hj, rfl⟩ := hu
        obtain ⟨x, hx, _, hd⟩ := hcj j hj
        exact hd.one
theorem LR.loadRpPartT {α : Type} {enc : α → List DV} {L : List α} {x : Operand} {id n o m k : Nat} {T T0 : TypeId} {y : α} {ys : List DV} (ha : ∀ w, (isAgg T).run P w = .ok true w) (hs : ∀ w, (sizeOf T).run P w = .ok m w) (hx : s.ev x = some (.rp id n o k)) (hl : look s.objs id = some (.row T0 k (L.map enc))) (hy : L[n]? = some y) (hm : Nat.ble (o + m) k = true) (hys : ((enc y).drop o).take m = ys) :
    Local P ctx ⟨dst, .load T x, ty, pos, after, gd⟩ s (s.putD dst (.agg (ys.map .d))) := LR.loadRpPart ha hs hx hl (by simp [hy]) (Nat.le_of_ble_eq_true hm) hys

/-- A row of one's own becomes data, in slots and in a cell. -/
theorem Sub.frzC {id oid j n k : Nat} {e T : TypeId} {l : List (List DV)} {cs : List PV} (js : List Nat) (hK : ∀ b, ctx.K b → ctx.S b) (hl : look s.objs id = some (.row e k l)) (hn : l.length = n) (hjs : ∀ j ∈ js, s.at j = some (.row id n))
    (ho : look s.objs oid = some (.cells T cs)) (hj : cs[j]? = some (.row id n)) (hne : Nat.beq oid id = false) :
    Sub ctx s { n := s.n, sl := (s.sets (.d (.sl l)) js).sl, objs := putO oid (.cells T (cs.set j (.d (.sl l)))) (delO id s.objs) } := by
  have hne' : oid ≠ id := fun e => by rw [e] at hne; simp at hne
  rintro a w ⟨g, h⟩
  have hlk : ∀ {q : Nat} {o : Ob}, look (putO oid (.cells T (cs.set j (.d (.sl l)))) (delO id s.objs)) q = some o → q ≠ id ∧ ∃ o', look s.objs q = some o' ∧ ((q = oid ∧ o' = .cells T cs ∧ o = .cells T (cs.set j (.d (.sl l)))) ∨ (q ≠ oid ∧ o' = o)) := fun {q o} hq => by
    rw [look_putO] at hq
    by_cases e : q = oid
    · subst e; rw [if_pos rfl] at hq; cases hq; exact ⟨hne', _, ho, .inl ⟨rfl, rfl, rfl⟩⟩
    · rw [if_neg e, look_delO] at hq
      split at hq
      · cases hq
      · rename_i h2; exact ⟨h2, _, hq, .inr ⟨e, rfl⟩⟩
  have hF : ∀ b, Free ctx g s.objs b → Free ctx g (putO oid (.cells T (cs.set j (.d (.sl l)))) (delO id s.objs)) b := fun b ⟨h1, h2⟩ => ⟨h1, fun q o m hq hg => by
    obtain ⟨_, o', h3, _⟩ := hlk hq
    exact h2 q o' m h3 hg⟩
  have hst : Stays w w (Free ctx g s.objs) := ⟨Nat.le_refl _, fun _ _ _ => rfl⟩
  have frozen : ∀ u, Rd w g (Free ctx g s.objs) (.row id n) u → Rd w g (Free ctx g (putO oid (.cells T (cs.set j (.d (.sl l)))) (delO id s.objs))) (.d (.sl l)) u := by
    intro u hr
    have hob := h.objs id _ hl
    cases hob with
    | rowNil _ _ hgn =>
      cases hr with
      | row _ _ blk cap hgi => rw [hgn] at hgi; cases hgi
      | rowNil => exact .d (.nil none 0 (Nat.zero_le _) (fun _ => rfl))
    | row _ _ _ blk' cap' cur hgi hh hlc hcap hcs hkk hr' =>
      cases hr with
      | rowNil _ hgn => rw [hgn] at hgi; cases hgi
      | row _ _ blk cap hgi' =>
        rw [hgi] at hgi'
        cases hgi'
        subst hn
        have hown := h.own id _ blk' cap' hl hgi
        have hfree : Free ctx g (putO oid (.cells T (cs.set j (.d (.sl l)))) (delO id s.objs)) blk' := ⟨hown.2.elim .inr fun hh => .inl (hK _ hh), fun q o m hq hgj => by
          obtain ⟨hne, o', hq', _⟩ := hlk hq
          exact hne (h.inj q id _ _ blk' m cap' hq' hl hgj hgi)⟩
        refine .d (.sl l blk' 0 cap' k (fun i j => cur.getD (i * k + j) undef) hlc hcap hfree hown.1 hkk ?_ ?_)
        · intro i j hi hj
          have hlt : i * k + j < cur.length := by rw [hcs]; exact idx_lt (by omega) hj
          rw [cell_of_heap hh]
          simp [hlt]
        · intro i cs j x hi hx
          obtain ⟨u, hu, hd⟩ := hr' i cs j x hi hx
          have e : cur.getD (i * k + j) undef = u := by simp [List.getD, hu]
          show DRd w _ x (cur.getD (i * k + j) undef)
          rw [e]
          exact hd.keep hst (fun b hb _ => hF b hb)
  refine ⟨g, ⟨h.defers, h.size, ?_, ?_, ?_, ?_, h.os, h.tape, h.output, h.grows, h.keep⟩⟩
  · intro i p hp
    have hp' : (s.sets (.d (.sl l)) js).at i = some p := at_of (by rw [sets_len]; exact at_lt (s := { n := s.n, sl := (s.sets (.d (.sl l)) js).sl, objs := putO oid (.cells T (cs.set j (.d (.sl l)))) (delO id s.objs) }) hp) (at_get (s := { n := s.n, sl := (s.sets (.d (.sl l)) js).sl, objs := putO oid (.cells T (cs.set j (.d (.sl l)))) (delO id s.objs) }) hp)
    rcases sets_get _ js s i p hp' with ⟨h1, rfl⟩ | h2
    · exact frozen _ (h.slots i _ (hjs i h1))
    · exact (h.slots i p h2).keep hst (fun b hb _ => hF b hb) (fun _ _ => rfl)
  · intro q o hq
    obtain ⟨hqi, o', hq', hcase⟩ := hlk hq
    rcases hcase with ⟨rfl, rfl, rfl⟩ | ⟨hqo, rfl⟩
    · cases h.objs q _ ho with
      | cells _ _ blk n' us hgi hh hlen hr h1' =>
        refine .cells T _ blk n' us hgi hh (by simpa using hlen) (fun i p u hp hu => ?_) h1'
        rw [List.getElem?_set] at hp
        split at hp
        · rename_i e
          subst e
          split at hp
          · simp only [Option.some.injEq] at hp
            subst hp
            exact frozen u (hr j _ u hj hu)
          · cases hp
        · exact (hr i p u hp hu).keep hst (fun b hb _ => hF b hb) (fun _ _ => rfl)
    · exact (h.objs q _ hq').keep hst (fun b hb _ => hF b hb) (fun _ _ _ => rfl) rfl (fun _ _ => rfl)
  · intro i j oi oj b n m hi hj
    obtain ⟨_, _, h1, _⟩ := hlk hi
    obtain ⟨_, _, h2, _⟩ := hlk hj
    exact h.inj i j _ _ b n m h1 h2
  · intro q o b n hq
    obtain ⟨_, _, h1, _⟩ := hlk hq
    exact h.own q _ b n h1
theorem PWl.frzC {Q : PQ} {ops : Array Oper} {rest : List Oper} {id oid j n k : Nat} {e T : TypeId} {l : List (List DV)} {cs : List PV} (js : List Nat) (hK : ∀ b, ctx.K b → ctx.S b) (hjs : AllRow s id n js) (hl : look s.objs id = some (.row e k l)) (hn : l.length = n)
    (ho : look s.objs oid = some (.cells T cs)) (hj : cs[j]? = some (.row id n)) (hne : Nat.beq oid id = false)
    (h : PWl P ctx ops Q rest { n := s.n, sl := (s.sets (.d (.sl l)) js).sl, objs := putO oid (.cells T (cs.set j (.d (.sl l)))) (delO id s.objs) }) : PWl P ctx ops Q rest s := PWl.sub (Sub.frzC js hK hl hn hjs.get ho hj hne) h
theorem PWc.frzC {Q : PQ} {c : Code} {id oid j n k : Nat} {e T : TypeId} {l : List (List DV)} {cs : List PV} (js : List Nat) (hK : ∀ b, ctx.K b → ctx.S b) (hjs : AllRow s id n js) (hl : look s.objs id = some (.row e k l)) (hn : l.length = n)
    (ho : look s.objs oid = some (.cells T cs)) (hj : cs[j]? = some (.row id n)) (hne : Nat.beq oid id = false)
    (h : PWc P ctx c Q { n := s.n, sl := (s.sets (.d (.sl l)) js).sl, objs := putO oid (.cells T (cs.set j (.d (.sl l)))) (delO id s.objs) }) : PWc P ctx c Q s := PWc.sub (Sub.frzC js hK hl hn hjs.get ho hj hne) h
end
section
variable {P : Program} {ctx : Ctx} {ops : Array Oper} {Q : PState → Prop} {s : PState}
variable {dst : Option Tmp} {ty : TypeId} {pos : String} {after : Array Edge} {gd : Option (Nat × Bool)}
variable {α : Type} {enc : α → List DV} {L R : List α} {x y : Operand} {id oid m k bs' j : Nat} {t t' e e' T : TypeId} {cs : List PV}
/-- 'append' to the row that a cell names, which forgets it. -/
theorem LR.appC (js : List Nat) (hE : ElemOK P t e k bs') (hu' : P.underlying t' = some (.slice e')) (hx : s.ev x = some (.row id m)) (hm : m = L.length) (hl : look s.objs id = some (.row e k (L.map enc)))
    (hlm : look s.objs oid = some (.cells T cs)) (hall : PV.has.hasL id (cs.set j .junk) = false) (hne : Nat.beq id oid = false)
    (hy : ∀ s' : PState, s'.n = s.n → s'.sl = s.sl → Src ctx s' y (R.map enc) k) (hk : ∀ x, (enc x).length = k) (hb : (L.length + R.length) * bs' ≤ 140737488355328) (h1 : Nat.ble 1 bs' = true) (ha : (s.junks js).aloneX id [oid] = true) :
    Local P ctx ⟨dst, .call ⟨.builtin .append, #[x, y], #[t, t']⟩, ty, pos, after, gd⟩ s ((((s.junks js).setO oid (.cells T (cs.set j .junk))).setO id (.row e k ((L ++ R).map enc))).putD dst (.row id (L ++ R).length)) := by
  have hne' : id ≠ oid := fun e => by rw [e] at hne; simp at hne
  let s2 : PState := { s with objs := putO oid (.cells T (cs.set j .junk)) (delO oid s.objs) }
  have hsub : Sub ctx s s2 := Sub.trans (Sub.junkCell (j := j) hlm) (Sub.drop rfl (fun i q hq => hq) (fun i o ho => by
    rw [look_putdel] at ho
    rw [look_putO]; exact ho))
  have hj2 : ∀ js, (s2.junks js).sl = (s.junks js).sl := fun js => by rw [junks_sl, junks_sl]
  have ha2 : (s2.junks js).alone id = true := by
    unfold PState.aloneX at ha
    unfold PState.alone
    rw [hj2 js]
    rw [Bool.and_eq_true] at ha ⊢
    refine ⟨ha.1, List.all_eq_true.2 fun q hq => ?_⟩
    rw [junks_objs] at hq
    have h2 := List.all_eq_true.1 ha.2
    obtain ⟨qk, qo⟩ := q
    rcases putO_mem hq with h3 | h3
    · cases h3; simpa [Ob.has] using hall
    · have h4 := delO_mem h3
      have h5 := h2 (qk, qo) (by rw [junks_objs]; exact h4.2)
      have h6 : inL [oid] qk = false := by
        rw [inL_false]; simpa using h4.1
      simpa [h6] using h5
  have hl2 : look s2.objs id = some (.row e k (L.map enc)) := by
    show look (putO _ _ _) _ = _
    rw [look_putdel, if_neg hne']; exact hl
  refine Local.pre hsub ((LR.appT (enc := enc) (L := L) (R := R) (s := s2) js hE hu' (by cases x <;> exact hx) hm hl2 (hy s2 rfl rfl) hk hb h1 ha2).post ?_)
  refine Sub.drop ?_ (fun i q hq => ?_) (fun i o ho => ?_)
  · simp only [putD_len]
    show (s2.junks js).n = (s.junks js).n
    rw [junks_n, junks_n]
  · have hsl : (((s2.junks js).setO id (.row e k ((L ++ R).map enc))).putD dst (.row id (L ++ R).length)).sl = ((((s.junks js).setO oid (.cells T (cs.set j .junk))).setO id (.row e k ((L ++ R).map enc))).putD dst (.row id (L ++ R).length)).sl := by
      cases dst <;> simp [PState.putD, PState.put, PState.setO, hj2]
    have hn : (((s2.junks js).setO id (.row e k ((L ++ R).map enc))).putD dst (.row id (L ++ R).length)).n = ((((s.junks js).setO oid (.cells T (cs.set j .junk))).setO id (.row e k ((L ++ R).map enc))).putD dst (.row id (L ++ R).length)).n := by
      simp only [putD_len]
      show (s2.junks js).n = (s.junks js).n
      rw [junks_n, junks_n]
    rw [at_eq] at hq ⊢
    rw [hsl, hn]; exact hq
  · rw [putD_objs] at ho ⊢
    simp only [PState.setO, junks_objs] at ho ⊢
    rw [look_putO] at ho ⊢
    by_cases hi : i = id
    · rw [if_pos hi] at ho ⊢; exact ho
    · rw [if_neg hi] at ho ⊢
      rw [look_putO] at ho
      show look (putO _ _ (delO _ _)) _ = _
      rw [look_putdel]; exact ho
end
end Go.Ep
namespace Go.Ep
/-- An end whose results lie in variables of the call's own. -/
theorem EndsO.mkX {G : Type} {P : Program} {ctx : Ctx} {fn : Func} {pl ex : List (Nat × Ob)} {r : PV} {os' : G → List (Nat × Ob)} {e : Exit} {s : PState} (gh : G) {n : Nat} {sl : List (Nat × PV)} {ps : List PV} (he : e = .normal ∨ e = .ret) (hsub : Sub ctx s ⟨n, sl, (os' gh ++ pl) ++ ex⟩)
    (hres : ResLO P ⟨n, sl, (os' gh ++ pl) ++ ex⟩ fn.results.toList ps) (hq : tupOf ps = r) (hd : (pl.all fun x => !inL ((os' gh).map (·.1)) x.1) = true) : EndsO P ctx fn pl r os' e s := by
  refine ⟨he, gh, ps, _, hsub, hres, hq, fun id o h => look_left (look_left h), fun id o h => look_left ?_⟩
  rw [look_append]
  cases hl : look (os' gh) id with
  | none => rw [Option.none_or]; exact h
  | some q =>
    have h1 := List.all_eq_true.1 hd _ (look_mem h)
    have h2 := inL_iff.2 (look_key hl)
    rw [h2] at h1; cases h1
end Go.Ep
