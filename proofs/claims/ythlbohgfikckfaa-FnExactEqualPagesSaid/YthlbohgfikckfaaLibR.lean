/- From a walk to the given row: arguments that read as data are data of the walk's kind; a law that returns true for each of them holds. General laws over any program; no conditions. -/
import Derived.Test.YthlbohgfikckfaaLibP
import Derived.ProofKit
namespace Go.Sw
open Go Go.RowKit Go.ChangeShapes Go.WideShapes Go.ChangeAt

/-- Cells of Go type t that read as data are those of an α. -/
def Opens (P : Program) (t : TypeId) (α : Type) [Ph α] : Prop :=
  ∀ (H : Type) (enc : TypeId × Value → H) (W : World) (sp : Nat → Bool) (held : Bool) (fuel : Nat) (cs : List Value) (x : DataW H × List MemPlace),
    DataW.trod enc P W 0 sp held fuel t cs = some x → ∃ d : α, cs = Ph.enc d ∧ Ph.ok W d

section
variable {P : Program} {t : TypeId}

theorem wfI_of {n : Int} (h : (Lit.int .i64 n).wf = true) : WfI n := by
  simp [Lit.wf, IntKind.min, IntKind.max, IntKind.signed, IntKind.bits] at h
  exact ⟨by omega, by omega⟩

theorem Opens.int (h : P.underlying t = some (.int .i64)) : Opens P t Int := fun H enc W sp held fuel cs x hx => by
  obtain ⟨n, h1, _, h3⟩ := DataW.trod_int h hx
  exact ⟨n, h1, wfI_of h3⟩

theorem Opens.bool (h : P.underlying t = some .bool) : Opens P t Bool := fun H enc W sp held fuel cs x hx => by
  obtain ⟨b, h1, _⟩ := DataW.trod_bool h hx
  exact ⟨b, h1, trivial⟩

theorem Opens.str (h : P.underlying t = some .string) : Opens P t Str := fun H enc W sp held fuel cs x hx => by
  obtain ⟨s, h1, _, h3⟩ := DataW.trod_string h hx
  obtain ⟨⟨l⟩⟩ := s
  refine ⟨l, h1, ?_⟩
  simp only [ByteArray.size, List.size_toArray, maxLen] at h3
  show l.length ≤ 9223372036854775807
  omega

theorem u8_of {n : Int} (h : (Lit.int .u8 n).wf = true) : ∃ b : UInt8, n = (b.toNat : Int) := by
  simp [Lit.wf, IntKind.min, IntKind.max, IntKind.signed, IntKind.bits] at h
  refine ⟨UInt8.ofNat n.toNat, ?_⟩
  have : n.toNat < 256 := by omega
  simp only [UInt8.toNat_ofNat']
  omega

theorem Opens.byte (h : P.underlying t = some (.int .u8)) : Opens P t UInt8 := fun H enc W sp held fuel cs x hx => by
  obtain ⟨n, h1, _, h3⟩ := DataW.trod_int h hx
  obtain ⟨b, hb⟩ := u8_of h3
  exact ⟨b, by rw [h1, hb]; rfl, trivial⟩

/-- The pieces of a struct. -/
theorem trod_pieces {fs : Array Field} (h : P.underlying t = some (.struct fs)) {H : Type} {enc : TypeId × Value → H} {W : World} {sp : Nat → Bool} {held : Bool} {fuel : Nat} {cs : List Value} {x : DataW H × List MemPlace}
    (hx : DataW.trod enc P W 0 sp held fuel t cs = some x) : cs.length = P.cellsOf t ∧ ∃ fuel', ∀ f ∈ fs.toList, ∃ y, DataW.trod enc P W 0 sp held fuel' f.type ((cs.drop f.offset).take (P.cellsOf f.type)) = some y := by
  cases fuel with
  | zero => simp [DataW.trod] at hx
  | succ fuel =>
    have key : (if cs.length = P.cellsOf t then (fs.toList.mapM fun f => DataW.trod enc P W 0 sp held fuel f.type ((cs.drop f.offset).take (P.cellsOf f.type))).map fun xs => ((DataW.agg (xs.map (·.1)), xs.flatMap (·.2)) : DataW H × List MemPlace) else none) = some x := by
      unfold DataW.trod at hx
      simpa [h] using hx
    by_cases hl : cs.length = P.cellsOf t
    · rw [if_pos hl] at key
      refine ⟨hl, fuel, fun f hf => ?_⟩
      cases hm : (fs.toList.mapM fun f => DataW.trod enc P W 0 sp held fuel f.type ((cs.drop f.offset).take (P.cellsOf f.type))) with
      | none => rw [hm] at key; simp at key
      | some xs =>
        have gen : ∀ (l : List Field) (xs : List (DataW H × List MemPlace)), (l.mapM fun f => DataW.trod enc P W 0 sp held fuel f.type ((cs.drop f.offset).take (P.cellsOf f.type))) = some xs → ∀ f ∈ l, ∃ y, DataW.trod enc P W 0 sp held fuel f.type ((cs.drop f.offset).take (P.cellsOf f.type)) = some y := by
          intro l
          induction l with
          | nil => intro xs _ f hf; cases hf
          | cons g l ih =>
            intro xs hxs f hf
            simp only [List.mapM_cons, Option.bind_eq_bind, Option.bind_eq_some_iff, Option.pure_def, Option.some.injEq] at hxs
            obtain ⟨y, hy, ys, hys, _⟩ := hxs
            rcases List.mem_cons.1 hf with rfl | hf
            · exact ⟨y, hy⟩
            · exact ih ys hys f hf
        exact gen _ xs hm f hf
    · rw [if_neg hl] at key; cases key

theorem mapM_get {α β : Type} {g : α → Option β} : ∀ (l : List α) (ys : List β), l.mapM g = some ys → ys.length = l.length ∧ ∀ (i : Nat) (x : α), l[i]? = some x → ∃ y, g x = some y ∧ ys[i]? = some y
  | [], ys, h => by simp at h; subst h; simp
  | a :: l, ys, h => by
    simp only [List.mapM_cons, Option.bind_eq_bind, Option.bind_eq_some_iff, Option.pure_def, Option.some.injEq] at h
    obtain ⟨y, hy, zs, hzs, rfl⟩ := h
    obtain ⟨h1, h2⟩ := mapM_get l zs hzs
    refine ⟨by simp [h1], fun i x hx => ?_⟩
    cases i with
    | zero => simp at hx; subst hx; exact ⟨y, hy, rfl⟩
    | succ i => obtain ⟨y', h3, h4⟩ := h2 i x (by simpa using hx); exact ⟨y', h3, by simpa using h4⟩

theorem cells?_get {W : World} {a : Go.Addr} {n : Nat} {cs : List Value} (h : W.cells? 0 a n = some cs) : cs.length = n ∧ ∀ j v, cs[j]? = some v → W.cell? (a.add j) = some v := by
  unfold World.cells? at h
  rw [if_pos (Nat.zero_le _)] at h
  obtain ⟨h1, h2⟩ := mapM_get _ _ h
  simp only [List.length_range] at h1
  refine ⟨h1, fun j v hv => ?_⟩
  have hj : j < n := by rw [← h1]; exact (List.getElem?_eq_some_iff.1 hv).1
  obtain ⟨y, hy, hy2⟩ := h2 j j (by simp [hj])
  rw [hv] at hy2
  simp only [Option.some.injEq] at hy2
  rw [hy, hy2]

theorem exists_list {α : Type} (p : Nat → α → Prop) : ∀ n, (∀ i, i < n → ∃ d, p i d) → ∃ l : List α, l.length = n ∧ ∀ i d, l[i]? = some d → p i d
  | 0, _ => ⟨[], rfl, by simp⟩
  | n + 1, h => by
    obtain ⟨l, h1, h2⟩ := exists_list p n fun i hi => h i (by omega)
    obtain ⟨d, hd⟩ := h n (by omega)
    refine ⟨l ++ [d], by simp [h1], fun i x hx => ?_⟩
    rcases Nat.lt_or_ge i n with hi | hi
    · rw [List.getElem?_append_left (by omega)] at hx; exact h2 i x hx
    · have : i < (l ++ [d]).length := (List.getElem?_eq_some_iff.1 hx).1
      simp only [List.length_append, List.length_cons, List.length_nil, h1] at this
      have hin : i = n := by omega
      subst hin
      rw [List.getElem?_append_right (by omega), h1, Nat.sub_self] at hx
      simp at hx; subst hx; exact hd

theorem Opens.slice {α : Type} [Ph α] {el : TypeId} (h : P.underlying t = some (.slice el)) (hsz : P.cellsOf el = Ph.sz α) (ho : Opens P el α) : Opens P t (Sl α) := fun H enc W sp held fuel cs x hx => by
  cases fuel with
  | zero => simp [DataW.trod] at hx
  | succ fuel =>
    obtain ⟨v, rfl⟩ : ∃ v, cs = [v] := by
      unfold DataW.trod at hx
      rw [h] at hx
      match cs, hx with
      | [v], _ => exact ⟨v, rfl⟩
      | [], hx => simp at hx
      | _ :: _ :: _, hx => simp at hx
    obtain ⟨a, len, cap, rfl⟩ : ∃ a len cap, v = .slice a len cap := by
      unfold DataW.trod at hx
      rw [h] at hx
      cases v <;> first | exact ⟨_, _, _, rfl⟩ | simp at hx
    cases a with
    | none =>
      have : len = 0 ∧ cap = 0 := by
        unfold DataW.trod at hx
        rw [h] at hx
        cases len <;> cases cap <;> first | exact ⟨rfl, rfl⟩ | simp at hx
      obtain ⟨rfl, rfl⟩ := this
      exact ⟨⟨[], none, 0⟩, rfl, ⟨Nat.le_refl _, by simp [maxLen], .inl rfl, by simp⟩⟩
    | some a =>
      unfold DataW.trod at hx
      simp only [h] at hx
      by_cases hc : 0 ≤ a.block ∧ len ≤ cap ∧ cap ≤ maxLen
      · rw [if_pos hc] at hx
        simp only [Option.bind_eq_some_iff] at hx
        obtain ⟨elems, he, _⟩ := hx
        obtain ⟨h1, h2⟩ := mapM_get _ _ he
        simp only [List.length_range] at h1
        obtain ⟨l, hl, hp⟩ := exists_list (fun i (d : α) => W.cells? 0 (a.add (i * P.cellsOf el)) (P.cellsOf el) = some (Ph.enc d) ∧ Ph.ok W d) len fun i hi => by
          obtain ⟨y, hy, _⟩ := h2 i i (by simp [hi])
          obtain ⟨cs, hcs, hcs2⟩ := Option.bind_eq_some_iff.1 hy
          obtain ⟨d, rfl, hd⟩ := ho H enc W sp held fuel cs y hcs2
          exact ⟨d, hcs, hd⟩
        refine ⟨⟨l, some a, cap⟩, by rw [← hl]; rfl, ?_⟩
        refine ⟨by simp only; omega, hc.2.2, ?_, fun x hx => ?_⟩
        · rcases Nat.eq_zero_or_pos len with h0 | h0
          · left; exact List.eq_nil_of_length_eq_zero (by simp only; omega)
          · right
            -- the address bears no spot
            have hspot : a = ⟨a.block, a.off, none⟩ := by
              obtain ⟨d, hd⟩ : ∃ d, l[0]? = some d := ⟨l[0]'(by omega), List.getElem?_eq_getElem (by omega)⟩
              obtain ⟨hc0, _⟩ := hp 0 d hd
              obtain ⟨hcl, hcg⟩ := cells?_get hc0
              rw [Nat.zero_mul] at hcg
              obtain ⟨v, hv⟩ : ∃ v, (Ph.enc d)[0]? = some v := ⟨(Ph.enc d)[0]'(by rw [Ph.len]; exact Ph.pos), List.getElem?_eq_getElem _⟩
              have := hcg 0 v hv
              have hadd : (a.add 0).add 0 = a := by simp [Go.Addr.add]
              rw [hadd] at this
              cases hs : a.spot with
              | none => cases a; simp_all
              | some s =>
                unfold World.cell? at this
                split at this
                · simp [hs] at this
                · cases this
            refine ⟨by show some a = _; rw [hspot]; rfl, fun j v hj => ?_⟩
            show W.cell? ⟨a.block, a.off + j, none⟩ = some v
            have hj' : (encs l)[j]? = some v := hj
            have hlt : j < l.length * Ph.sz α := by rw [← encs_length]; exact (List.getElem?_eq_some_iff.1 hj').1
            have hpos : 0 < Ph.sz α := Ph.pos
            have hq : j / Ph.sz α < l.length := by rw [Nat.div_lt_iff_lt_mul hpos]; exact hlt
            obtain ⟨d, hd⟩ : ∃ d, l[j / Ph.sz α]? = some d := ⟨l[j / Ph.sz α], List.getElem?_eq_getElem hq⟩
            have hr : j % Ph.sz α < (Ph.enc d).length := by rw [Ph.len]; exact Nat.mod_lt _ hpos
            have hv' := encs_get l (j / Ph.sz α) d hd (j % Ph.sz α) _ (List.getElem?_eq_getElem hr)
            have hdm : j / Ph.sz α * Ph.sz α + j % Ph.sz α = j := by rw [Nat.mul_comm]; exact Nat.div_add_mod j _
            rw [hdm, hj'] at hv'
            obtain ⟨hc0, _⟩ := hp _ d hd
            obtain ⟨_, hcg⟩ := cells?_get hc0
            have := hcg (j % Ph.sz α) v (by rw [List.getElem?_eq_getElem hr]; exact hv'.symm)
            rw [hsz, hspot, Addr.add_lit, Addr.add_lit, Nat.add_assoc, hdm] at this
            exact this
        · obtain ⟨i, hi, hxi⟩ := List.getElem_of_mem hx
          exact (hp i x (by rw [List.getElem?_eq_getElem hi, hxi])).2
      · rw [if_neg hc] at hx; cases hx

/-! A whole argument. -/
section
variable {H : Type} {enc : TypeId × Value → H} {W : World} {base : Nat} {v : Value} {d : DataW H} {ps : List MemPlace} {sp : Nat → Bool} {held : Bool}

theorem openV_struct {α : Type} [Ph α] (hu : (P.underlying t).map isStruct = some true) (ho : Opens P t α) (hok : Value.okWide P W .any base t v) (h : DataW.Trod enc P W 0 sp held t v d ps) : ∃ x : α, v = .agg (Ph.enc x).toArray ∧ Ph.ok W x := by
  obtain ⟨fuel, hf⟩ := h
  obtain ⟨x, hx, hok'⟩ := ho H enc W sp held fuel _ _ hf
  cases hd : P.underlying t with
  | none => simp [hd] at hu
  | some k =>
    cases k <;> simp [hd, isStruct] at hu
    unfold Value.okWide at hok
    rw [hd] at hok
    obtain ⟨cs, rfl, _, _⟩ := hok
    refine ⟨x, ?_, hok'⟩
    have : cs.toList = Ph.enc x := hx
    rw [← this]

theorem openV_slice {α : Type} [Ph α] {el : TypeId} (hu : P.underlying t = some (.slice el)) (ho : Opens P t (Sl α)) (hok : Value.okWide P W .any base t v) (h : DataW.Trod enc P W 0 sp held t v d ps) : ∃ x : Sl α, v = .slice x.a x.l.length x.c ∧ Ph.ok W x := by
  obtain ⟨fuel, hf⟩ := h
  obtain ⟨x, hx, hok'⟩ := ho H enc W sp held fuel _ _ hf
  obtain ⟨a, len, cap, rfl⟩ := okWide_slice hu hok
  refine ⟨x, ?_, hok'⟩
  have : [Value.slice a len cap] = [x.v] := hx
  simpa using this

theorem openV_int (hu : P.underlying t = some (.int .i64)) (hok : Value.okWide P W .any base t v) (h : DataW.Trod enc P W 0 sp held t v d ps) : ∃ x : Int, v = I x ∧ Ph.ok W x := by
  obtain ⟨x, rfl, _, _, hw⟩ := open_int hu hok h
  exact ⟨x, rfl, wfI_of hw⟩
theorem openV_bool (hu : P.underlying t = some .bool) (hok : Value.okWide P W .any base t v) (h : DataW.Trod enc P W 0 sp held t v d ps) : ∃ x : Bool, v = Bo x ∧ Ph.ok W x := by
  obtain ⟨x, rfl, _, _⟩ := open_bool hu hok h
  exact ⟨x, rfl, trivial⟩
theorem openV_str (hu : P.underlying t = some .string) (hok : Value.okWide P W .any base t v) (h : DataW.Trod enc P W 0 sp held t v d ps) : ∃ x : Str, v = S x ∧ Ph.ok W x := by
  obtain ⟨x, rfl, _, _, hw⟩ := ChangeMaps.open_string hu hok h
  obtain ⟨⟨l⟩⟩ := x
  refine ⟨l, rfl, ?_⟩
  simp only [ByteArray.size, List.size_toArray, maxLen] at hw
  show l.length ≤ 9223372036854775807
  omega
end

/-- The arguments read behind the call as before. -/
theorem trodAll_below {H : Type} {enc : TypeId × Value → H} (hl : laidOutB P = true) {W W' : World} (hb : Below W.heap.size W W') : ∀ (ts : List TypeId) (vs : List Value) (ds : List (DataW H)) (ps : List MemPlace),
    (ts.all fun t => P.readableRec t && decide (t < P.types.size)) = true → DataW.TrodAll enc P W 0 (fun _ => true) true ts vs ds ps → (∀ x ∈ ps, x.block < W.heap.size) → DataW.TrodAll enc P W' 0 (fun b => decide (b < W.heap.size)) true ts vs ds ps
  | [], vs, ds, ps, _, h, _ => by
    obtain ⟨rfl, rfl, rfl⟩ := trodAll_nil h; exact trodAll_mk0
  | t :: ts, vs, ds, ps, hr, h, hlt => by
    obtain ⟨v, vs', d, ds', p, q, rfl, rfl, rfl, h1, h2⟩ := trodAll_cons h
    simp only [List.all_cons, Bool.and_eq_true, decide_eq_true_eq] at hr
    exact ⟨p, q, Below.trod hl hr.1.1 hr.1.2 h1 hb (fun x hx => hlt x (List.mem_append_left _ hx)), trodAll_below hl hb ts vs' ds' q hr.2 h2 (fun x hx => hlt x (List.mem_append_right _ hx)), rfl⟩
end

/-- A law: for all that can be read it returns true, and leaves what was there. -/
theorem law_lifted {H : Type} {enc : TypeId × Value → H} {C : Checked} {os : Os} {f : FuncId} {fn : Func} {s : ChangeSpec} {tb : TypeId}
    (own : ownKnob C.prog.godebug = none) (started : os.Started) (noInit : C.prog.inits.idxOf? f = none) (hfn : C.prog.funcs[f]? = some fn)
    (witness : ∃ (w : World) (tape : Tape) (i : Input), w.os = os ∧ (w.forCall tape i).Shaped C.prog ∧ i.vars = [] ∧ Input.okWide C.prog (w.forCall tape i) .any w.heap.size f i ∧
      s.pre6 enc C.prog fn [] false (w.forCall tape i).memory i.args ∧ Assume.holds {} C.prog (lone (Frame.enter C.prog f i.args .normal) [] (w.forCall tape i)))
    (hv : s.vars = []) (hrt : fn.resultTypes = #[tb]) (htb : C.prog.underlying tb = some .bool) (hl : laidOutB C.prog = true)
    (hr : (fn.params.toList.all fun t => C.prog.readableRec t && decide (t < C.prog.types.size)) = true)
    (hspec : ∀ ds : List (DataW H), ds.length = fn.params.toList.length → s.fn H ds = { results := [.lit (.bool true)], args := ds })
    (hc : ∀ (W : World) (base : Nat) (args : Array Value) (ds : List (DataW H)) (ps : List MemPlace), (∀ (j : Nat) t v, fn.params[j]? = some t → args[j]? = some v → Value.okWide C.prog W .any base t v) →
      DataW.TrodAll enc C.prog W 0 (fun _ => true) true fn.params.toList args.toList ds ps → Calls C.prog f args W (RetP W (Bo true))) :
    ReturnsInHanded {} C os f .any (s.pre6 enc C.prog fn [] false) (s.post enc C.prog fn false true false false) := by
  refine returnsInHanded_of_change own started noInit hfn witness ?_
  intro W base args ds gs before hval hW _ _
  have hW' := hW
  obtain ⟨p, q, hA, hV, rfl, hfz, hnd⟩ := hW
  rw [hv] at hV
  obtain ⟨rfl, rfl⟩ := trodVars_none hV
  refine (hc W base args ds p hval hA).mono fun e W' ⟨he, hb⟩ => ⟨_, he, ?_⟩
  have hlen : ∀ (ts : List TypeId) (vs : List Value) (ds : List (DataW H)) (ps : List MemPlace), DataW.TrodAll enc C.prog W 0 (fun _ => true) true ts vs ds ps → ds.length = ts.length := by
    intro ts
    induction ts with
    | nil => intro vs ds ps h; obtain ⟨_, rfl, _⟩ := trodAll_nil h; rfl
    | cons t ts ih => intro vs ds ps h; obtain ⟨_, _, _, _, _, _, _, rfl, _, _, h2⟩ := trodAll_cons h; simp [ih _ _ _ h2]
  have hs : s.fn H (ds ++ []) = { results := [.lit (.bool true)], args := ds } := by rw [List.append_nil]; exact hspec ds (hlen _ _ _ _ hA)
  refine ⟨ds, [], p ++ [], [], p, [], hW', ?_, ?_, ?_, hb.frame _, fun h => by cases h⟩
  · rw [hs, hrt]
    exact trodAll_mk1 (shut_bool htb true)
  · rw [hs]
    exact trodAll_below hl hb _ _ _ _ hr hA (fun x hx => hW'.lt x (by simpa using hx))
  · rw [hv, hs]; exact hV

end Go.Sw
