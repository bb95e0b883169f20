/- Small steps for walks: one operation, a test, a call, the end of a region; what a program's types come to. More small steps: a block that never turns again, a body that hands back a new block. A heap told otherwise: a block that moves to the end of what is kept, a row within an object that never turns again. Regions that draw their order but for the last operation, which all others stand before. Rows that never turn again, wherever a value or a row of rows has them. -/
import Derived.Test.YtdmgljlabigljaaKB
namespace Go.Proofs.Ytdmgljlabigljaa.Ab
open Go Go.RowKit

section steps
variable {P : Program} {mu : Nat → Bool} {n : Nat} {rd : Option Nat} {d : Option Draw} {done : List (Option Tmp)} {rest : List Oper} {T : Env} {H H' : Hp} {v : AV} {K : Env → Hp → Prop} {Q : Exit → Env → Hp → Prop}
variable {op : Op} {ty : TypeId} {pos : String} {aft : Array Edge} {gd : Option (Nat × Bool)} {s : Tmp}

theorem upd_app (T : Env) (d : Nat) (v : AV) (s : Nat) : upd T d v s = if s = d then v else T s := rfl
theorem env0_app (args : List AV) (t : Nat) : env0 args t = args.getD t (.val undef) := rfl

theorem reg {id : Nat} {ops : Array Oper} (mu : Nat → Bool) (h : wpO P mu n none [] ops.toList T H (Q .normal)) : Awp P n rd (.region id ops false) T H Q :=
  Awp.region (mu := mu) fun K hK => by
    have mono : ∀ (l : List Oper) (done : List (Option Tmp)) (T : Env) (H : Hp), wpO P mu n none done l T H (Q .normal) → wpO P mu n none done l T H K := by
      intro l
      induction l with
      | nil => intro done T H h; exact hK T H h
      | cons o l ih =>
        rintro done T H ⟨h1, b, h2, h3, h4⟩
        exact ⟨h1, b, h2, fun hb => (h3 hb).mono fun v H' h => ih _ _ _ h, fun hb => ih _ _ _ (h4 hb)⟩
    exact mono _ _ _ _ h

theorem stp (hc : callOf ⟨some s, op, ty, pos, aft, gd⟩ = none) (hd : dstOk n (some s) = true) (hg : guardA done gd T = some true)
    (h : stepA P mu ⟨some s, op, ty, pos, aft, gd⟩ T H = some (v, H')) (ho : okD P mu d done.length ⟨some s, op, ty, pos, aft, gd⟩ T H v H') (k : wpO P mu n d (done ++ [some s]) rest (upd T s v) H' K) : wpO P mu n d done (⟨some s, op, ty, pos, aft, gd⟩ :: rest) T H K := by
  exact ⟨hd, true, hg, fun _ => Perf.of (by unfold PerfTo; rw [hc]; exact h) ho k, fun h => by cases h⟩

/-- a store -/
theorem stpN (hc : callOf ⟨none, op, ty, pos, aft, gd⟩ = none) (hg : guardA done gd T = some true)
    (h : stepA P mu ⟨none, op, ty, pos, aft, gd⟩ T H = some (v, H')) (ho : okD P mu d done.length ⟨none, op, ty, pos, aft, gd⟩ T H v H') (k : wpO P mu n d (done ++ [none]) rest T H' K) : wpO P mu n d done (⟨none, op, ty, pos, aft, gd⟩ :: rest) T H K := by
  exact ⟨rfl, true, hg, fun _ => Perf.of (by unfold PerfTo; rw [hc]; exact h) ho k, fun h => by cases h⟩

/-- a comparison: both ways -/
theorem spD {p : Prop} [Decidable p] {ops : List Oper} (k1 : p → wpO P mu n d done ops (upd T s (.val (.bool true))) H K)
    (k2 : ¬ p → wpO P mu n d done ops (upd T s (.val (.bool false))) H K) : wpO P mu n d done ops (upd T s (.val (.bool (decide p)))) H K := by
  by_cases hp : p
  · rw [decide_eq_true hp]; exact k1 hp
  · rw [decide_eq_false hp]; exact k2 hp

/-- '==' of ints: both ways -/
theorem spE {x y : Int} {ops : List Oper} (k1 : x = y → wpO P mu n d done ops (upd T s (.val (.bool true))) H K)
    (k2 : x ≠ y → wpO P mu n d done ops (upd T s (.val (.bool false))) H K) : wpO P mu n d done ops (upd T s (.val (.bool (x == y)))) H K := by
  by_cases hp : x = y
  · rw [beq_iff_eq.2 hp]; exact k1 hp
  · rw [beq_eq_false_iff_ne.2 hp]; exact k2 hp

/-- '!=' of ints: both ways -/
theorem spF {x y : Int} {ops : List Oper} (k1 : x = y → wpO P mu n d done ops (upd T s (.val (.bool false))) H K)
    (k2 : x ≠ y → wpO P mu n d done ops (upd T s (.val (.bool true))) H K) : wpO P mu n d done ops (upd T s (.val (.bool (x != y)))) H K := by
  by_cases hp : x = y
  · rw [bne_eq_false_iff_eq.2 hp]; exact k1 hp
  · rw [bne_iff_ne.2 hp]; exact k2 hp

/-- a Bool: both ways -/
theorem spB {t : Bool} {ops : List Oper} (k1 : t = true → wpO P mu n d done ops (upd T s (.val (.bool true))) H K)
    (k2 : t = false → wpO P mu n d done ops (upd T s (.val (.bool false))) H K) : wpO P mu n d done ops (upd T s (.val (.bool t))) H K := by
  cases t
  · exact k2 rfl
  · exact k1 rfl

/-- a region that draws its order -/
theorem drw {id : Nat} {ops : Array Oper} (hm : P.follows .mixedOrders = true) (mu : Nat → Bool) (W : Draw) (hok : drawOk mu W ops (Region.before ops).toList = true)
    (h : wpO P mu n (some W) [] ops.toList T H (Q .normal)) : Awp P n rd (.region id ops true) T H Q := Awp.drawn hm mu W _ hok h

/-- which operations turn the heap, calls apart -/
def evOf (mu : Nat → Bool) (ops : Array Oper) (i : Nat) : Bool :=
  match ops[i]? with
  | some o => (match o.op with
    | .alloc _ | .box .. | .buildSlice .. => isMu mu o.dst
    | .store .. | .makeSlice .. | .makeMap .. | .mapUpdate .. => true
    | .call c => (match c.callee with | .builtin .len | .builtin .cap | .builtin .min | .builtin .max => false | .builtin _ => true | _ => false)
    | _ => false)
  | none => false

theorem drwE {id : Nat} {ops : Array Oper} (hm : P.follows .mixedOrders = true) (mu : Nat → Bool) (hok : drawOk mu (.of (evOf mu ops)) ops (Region.before ops).toList = true)
    (h : wpO P mu n (some (.of (evOf mu ops))) [] ops.toList T H (Q .normal)) : Awp P n rd (.region id ops true) T H Q := Awp.drawn hm mu _ _ hok h

theorem okT {P : Program} {mu : Nat → Bool} {i : Nat} {o : Oper} {T : Env} {H H' : Hp} {v : AV} : okD P mu none i o T H v H' := trivial
theorem okN {P : Program} {mu : Nat → Bool} {i : Nat} {o : Oper} {T : Env} {H : Hp} {v : AV} {ev : Nat → Bool} : okD P mu (some (.of ev)) i o T H v H := ⟨fun _ => rfl, fun _ _ => rfl, fun h => Bool.noConfusion h⟩
theorem okE {P : Program} {mu : Nat → Bool} {i : Nat} {o : Oper} {T : Env} {H H' : Hp} {v : AV} {ev : Nat → Bool} (h : ev i = true) : okD P mu (some (.of ev)) i o T H v H' :=
  ⟨fun k => (by have k : ev i = false := k; rw [h] at k; cases k), fun _ k => Bool.noConfusion (show false = true from k), fun k => Bool.noConfusion (show false = true from k)⟩

theorem get_new (L : Hp) (x : AObj) : (L ++ [x])[L.length]? = some x := by simp
theorem get_new2 (L : Hp) (x y : AObj) : (L ++ [x] ++ [y])[L.length]? = some x := by simp
theorem get_new3 (L : Hp) (x y z : AObj) : (L ++ [x] ++ [y] ++ [z])[L.length]? = some x := by simp
theorem get_new4 (L : Hp) (x y z u : AObj) : (L ++ [x] ++ [y] ++ [z] ++ [u])[L.length]? = some x := by simp
theorem set_new (L : Hp) (x c : AObj) : (L ++ [x]).set L.length c = L ++ [c] := by simp
theorem set_new2 (L : Hp) (x y c : AObj) : (L ++ [x] ++ [y]).set L.length c = L ++ [c] ++ [y] := by simp
theorem set_new3 (L : Hp) (x y z c : AObj) : (L ++ [x] ++ [y] ++ [z]).set L.length c = L ++ [c] ++ [y] ++ [z] := by simp
theorem set_new4 (L : Hp) (x y z u c : AObj) : (L ++ [x] ++ [y] ++ [z] ++ [u]).set L.length c = L ++ [c] ++ [y] ++ [z] ++ [u] := by simp

theorem get_mid (L Y : Hp) (x : AObj) : (L ++ [x] ++ Y)[L.length]? = some x := by simp
theorem get_mid2 (L Y Z : Hp) (x : AObj) : (L ++ [x] ++ Y ++ Z)[L.length]? = some x := by simp
theorem get_mid3 (L Y Z U : Hp) (x : AObj) : (L ++ [x] ++ Y ++ Z ++ U)[L.length]? = some x := by simp
theorem set_mid (L Y : Hp) (x c : AObj) : (L ++ [x] ++ Y).set L.length c = L ++ [c] ++ Y := by simp
theorem set_mid2 (L Y Z : Hp) (x c : AObj) : (L ++ [x] ++ Y ++ Z).set L.length c = L ++ [c] ++ Y ++ Z := by simp
theorem set_mid3 (L Y Z U : Hp) (x c : AObj) : (L ++ [x] ++ Y ++ Z ++ U).set L.length c = L ++ [c] ++ Y ++ Z ++ U := by simp

/-- an old block, in a heap that has grown -/
theorem held {H : Hp} {s : Nat} {v : AObj} (h : H[s]? = some v) :
    H[s]? = some v ∧ (∀ X, (H ++ X)[s]? = some v) ∧ (∀ X Y, (H ++ X ++ Y)[s]? = some v) ∧ (∀ X Y Z, (H ++ X ++ Y ++ Z)[s]? = some v) ∧ (∀ X Y Z U, (H ++ X ++ Y ++ Z ++ U)[s]? = some v) ∧ (∀ X Y Z U V, (H ++ X ++ Y ++ Z ++ U ++ V)[s]? = some v) := by
  have hlt := (List.getElem?_eq_some_iff.1 h).1
  have h1 : ∀ X, (H ++ X)[s]? = some v := fun X => by rw [List.getElem?_append_left hlt]; exact h
  refine ⟨h, h1, fun X Y => ?_, fun X Y Z => ?_, fun X Y Z U => ?_, fun X Y Z U V => ?_⟩ <;> simp only [List.append_assoc] <;> exact h1 _

theorem stp0 (hd : dstOk n (some s) = true) (hc : callOf ⟨some s, op, ty, pos, aft, none⟩ = none)
    (h : stepA P mu ⟨some s, op, ty, pos, aft, none⟩ T H = some (v, H')) (ho : okD P mu d done.length ⟨some s, op, ty, pos, aft, none⟩ T H v H') (k : wpO P mu n d (done ++ [some s]) rest (upd T s v) H' K) : wpO P mu n d done (⟨some s, op, ty, pos, aft, none⟩ :: rest) T H K :=
  stp hc hd rfl h ho k
theorem stpN0 (hc : callOf ⟨none, op, ty, pos, aft, none⟩ = none)
    (h : stepA P mu ⟨none, op, ty, pos, aft, none⟩ T H = some (v, H')) (ho : okD P mu d done.length ⟨none, op, ty, pos, aft, none⟩ T H v H') (k : wpO P mu n d (done ++ [none]) rest T H' K) : wpO P mu n d done (⟨none, op, ty, pos, aft, none⟩ :: rest) T H K :=
  stpN hc rfl h ho k

/-- a guard that lets the operation be -/
theorem gT {dst : Option Tmp} {p : Nat × Bool} (hg : guardA done (some p) T = some true) (k : wpO P mu n d done (⟨dst, op, ty, pos, aft, none⟩ :: rest) T H K) : wpO P mu n d done (⟨dst, op, ty, pos, aft, some p⟩ :: rest) T H K := by
  obtain ⟨h1, b, h2, h3, h4⟩ := k
  cases h2
  exact ⟨h1, true, hg, fun _ => by have := h3 rfl; exact this, fun h => by cases h⟩

theorem off (hd : dstOk n (some s) = true) (hg : guardA done gd T = some false)
    (k : wpO P mu n d (done ++ [some s]) rest (upd T s (.val undef)) H K) : wpO P mu n d done (⟨some s, op, ty, pos, aft, gd⟩ :: rest) T H K :=
  ⟨hd, false, hg, ⟨fun h => (by cases h), fun _ => k⟩⟩

theorem fin (k : K T H) : wpO P mu n d done [] T H K := k

variable {f : Operand} {args : Array Operand} {aT : Array TypeId}

/-- a call, by a contract of any kind -/
theorem cal {Post : AV → Hp → Prop} (hd : dstOk n (some s) = true) (hg : guardA done gd T = some true) {fv : AV} {as : List AV}
    (hf : evA T f = fv) (ha : args.toList.map (evA T) = as) (h : ACallV P fv as H Post)
    (k : ∀ v H', Post v H' → wpO P mu n none (done ++ [some s]) rest (upd T s v) H' K) : wpO P mu n none done (⟨some s, .call ⟨.value f, args, aT⟩, ty, pos, aft, gd⟩ :: rest) T H K := by
  subst hf; subst ha
  exact ⟨hd, true, hg, fun _ => OpOK.call rfl (ACallV.mono h k), fun h => by cases h⟩

/-- a call that comes to one value and one heap -/
def CallsTo (P : Program) (f : FuncId) (args : List AV) (H : Hp) (v : AV) (H' : Hp) : Prop := ACalls P f args H fun v1 H1 => v1 = v ∧ H1 = H'

theorem calTo0 {k' : FuncId} {cap : List AV} (hd : dstOk n (some s) = true) {as : List AV}
    (hf : evA T f = .fn (.func k') cap) (ha : args.toList.map (evA T) ++ cap = as) (h : CallsTo P k' as H v H') (ho : okD P mu d done.length ⟨some s, .call ⟨.value f, args, aT⟩, ty, pos, aft, none⟩ T H v H')
    (k : wpO P mu n d (done ++ [some s]) rest (upd T s v) H' K) : wpO P mu n d done (⟨some s, .call ⟨.value f, args, aT⟩, ty, pos, aft, none⟩ :: rest) T H K := by
  subst ha
  have h' : ACallV P (evA T f) (args.toList.map (evA T)) H (fun v1 H1 => v1 = v ∧ H1 = H') := by rw [hf]; exact h
  exact ⟨hd, true, rfl, fun _ => Perf.of h' ho k, fun h => by cases h⟩

/-- a call of a method value -/
theorem calM {k' : FuncId} {pre : List AV} (hd : dstOk n (some s) = true) {as : List AV}
    (hf : evA T f = .mth k' pre) (ha : pre ++ args.toList.map (evA T) = as) (h : CallsTo P k' as H v H') (ho : okD P mu d done.length ⟨some s, .call ⟨.value f, args, aT⟩, ty, pos, aft, none⟩ T H v H')
    (k : wpO P mu n d (done ++ [some s]) rest (upd T s v) H' K) : wpO P mu n d done (⟨some s, .call ⟨.value f, args, aT⟩, ty, pos, aft, none⟩ :: rest) T H K := by
  subst ha
  have h' : ACallV P (evA T f) (args.toList.map (evA T)) H (fun v1 H1 => v1 = v ∧ H1 = H') := by rw [hf]; exact h
  exact ⟨hd, true, rfl, fun _ => Perf.of h' ho k, fun h => by cases h⟩

/-- a call of a loop's round -/
theorem calY {b : Nat} (hd : dstOk n (some s) = true) {as : List AV} (hf : evA T f = .fn (.yield b) []) (ha : args.toList.map (evA T) = as)
    (h : AYield P b as H fun v1 H1 => v1 = v ∧ H1 = H') (ho : okD P mu d done.length ⟨some s, .call ⟨.value f, args, aT⟩, ty, pos, aft, none⟩ T H v H')
    (k : wpO P mu n d (done ++ [some s]) rest (upd T s v) H' K) : wpO P mu n d done (⟨some s, .call ⟨.value f, args, aT⟩, ty, pos, aft, none⟩ :: rest) T H K := by
  subst ha
  have h' : ACallV P (evA T f) (args.toList.map (evA T)) H (fun v1 H1 => v1 = v ∧ H1 = H') := by rw [hf]; exact h
  exact ⟨hd, true, rfl, fun _ => Perf.of h' ho k, fun h => by cases h⟩

theorem calTo {k' : FuncId} {cap : List AV} (hd : dstOk n (some s) = true) (hg : guardA done gd T = some true) {as : List AV}
    (hf : evA T f = .fn (.func k') cap) (ha : args.toList.map (evA T) ++ cap = as) (h : CallsTo P k' as H v H') (ho : okD P mu d done.length ⟨some s, .call ⟨.value f, args, aT⟩, ty, pos, aft, gd⟩ T H v H')
    (k : wpO P mu n d (done ++ [some s]) rest (upd T s v) H' K) : wpO P mu n d done (⟨some s, .call ⟨.value f, args, aT⟩, ty, pos, aft, gd⟩ :: rest) T H K := by
  subst ha
  have h' : ACallV P (evA T f) (args.toList.map (evA T)) H (fun v1 H1 => v1 = v ∧ H1 = H') := by rw [hf]; exact h
  exact ⟨hd, true, hg, fun _ => Perf.of h' ho k, fun h => by cases h⟩

/-- a call whose Bool is asked: both ways -/
theorem calB {k' : FuncId} {cap : List AV} {t : Bool} (hd : dstOk n (some s) = true) (hg : guardA done gd T = some true) {as : List AV}
    (hf : evA T f = .fn (.func k') cap) (ha : args.toList.map (evA T) ++ cap = as) (h : CallsTo P k' as H (.val (.bool t)) H') (ho : okD P mu d done.length ⟨some s, .call ⟨.value f, args, aT⟩, ty, pos, aft, gd⟩ T H (.val (.bool t)) H')
    (k1 : t = true → wpO P mu n d (done ++ [some s]) rest (upd T s (.val (.bool true))) H' K)
    (k2 : t = false → wpO P mu n d (done ++ [some s]) rest (upd T s (.val (.bool false))) H' K) : wpO P mu n d done (⟨some s, .call ⟨.value f, args, aT⟩, ty, pos, aft, gd⟩ :: rest) T H K := by
  refine calTo hd hg hf ha h ho ?_
  cases t
  · exact k2 rfl
  · exact k1 rfl

theorem condT {c : Operand} {x y : Code} (hc : evA T c = .val (.bool true)) (h : Awp P n rd x T H Q) : Awp P n rd (.cond c x y) T H Q := Awp.cond hc (fun _ => h) fun h => by cases h
theorem condF {c : Operand} {x y : Code} (hc : evA T c = .val (.bool false)) (h : Awp P n rd y T H Q) : Awp P n rd (.cond c x y) T H Q := Awp.cond hc (fun h => by cases h) fun _ => h

theorem thenQ_n {k : Env → Hp → Prop} (h : k T H) : thenQ k Q .normal T H := h
theorem thenQ_r {k : Env → Hp → Prop} (h : Q .ret T H) : thenQ k Q .ret T H := h
theorem thenQ_e {k : Env → Hp → Prop} {id : Nat} (h : Q (.exit id) T H) : thenQ k Q (.exit id) T H := h
theorem blockQ_n {id : Nat} (h : Q .normal T H) : blockQ id Q .normal T H := h
theorem blockQ_r {id : Nat} (h : Q .ret T H) : blockQ id Q .ret T H := h
theorem blockQ_e {id : Nat} (h : Q .normal T H) : blockQ id Q (.exit id) T H := by simp [blockQ, h]
theorem blockQ_o {id id' : Nat} (hn : (id' == id) = false) (h : Q (.exit id') T H) : blockQ id Q (.exit id') T H := by
  have : id' ≠ id := by simpa using hn
  simp [blockQ, h, this]

theorem Bel_val (m : Nat) (v : Value) : Bel m (.val v) := .val v
theorem Bel_tup {m : Nat} {cs : List AV} (h : ∀ c ∈ cs, Bel m c) : Bel m (.tup cs) := .tup h
theorem Bel_agg {m : Nat} {cs : List AV} (h : ∀ c ∈ cs, Bel m c) : Bel m (.agg cs) := .agg h

variable {fn : Func} {H0 X Y Z U : Hp} {e : Exit} {Post : AV → Hp → Prop} {vs : List AV}

/-- a function whose body hands back a value and leaves the heap as it was, but for what nothing leads to -/
theorem bodyQ_same (he : e = .normal ∨ e = .ret) (hr : resL P T (H0 ++ X) fn.results.toList = some vs) (hb : Bel H0.length (oneOf vs)) (hp : Post (oneOf vs) H0) :
    bodyQ P fn H0 Post e T (H0 ++ X) := ⟨he, vs, oneOf vs, H0, hr, Vs.drop hb, hp⟩

theorem bodyQ_eq {H1 : Hp} (he : e = .normal ∨ e = .ret) (hr : resL P T H1 fn.results.toList = some vs) (hp : Post (oneOf vs) H1) :
    bodyQ P fn H0 Post e T H1 := ⟨he, vs, oneOf vs, H1, hr, Vs.refl _ _ _, hp⟩

theorem bodyQ_d0 (he : e = .normal ∨ e = .ret) (hr : resL P T H0 fn.results.toList = some vs) (hv : oneOf vs = v) :
    bodyQ P fn H0 (fun v1 H1 => v1 = v ∧ H1 = H0) e T H0 := bodyQ_eq he hr ⟨hv, rfl⟩
theorem bodyQ_d1 (he : e = .normal ∨ e = .ret) (hr : resL P T (H0 ++ X) fn.results.toList = some vs) (hb : Bel H0.length (oneOf vs)) (hv : oneOf vs = v) :
    bodyQ P fn H0 (fun v1 H1 => v1 = v ∧ H1 = H0) e T (H0 ++ X) := bodyQ_same he hr hb ⟨hv, rfl⟩
theorem bodyQ_d2 (he : e = .normal ∨ e = .ret) (hr : resL P T (H0 ++ X ++ Y) fn.results.toList = some vs) (hb : Bel H0.length (oneOf vs)) (hv : oneOf vs = v) :
    bodyQ P fn H0 (fun v1 H1 => v1 = v ∧ H1 = H0) e T (H0 ++ X ++ Y) := by
  rw [List.append_assoc] at hr ⊢; exact bodyQ_same he hr hb ⟨hv, rfl⟩
theorem bodyQ_d3 (he : e = .normal ∨ e = .ret) (hr : resL P T (H0 ++ X ++ Y ++ Z) fn.results.toList = some vs) (hb : Bel H0.length (oneOf vs)) (hv : oneOf vs = v) :
    bodyQ P fn H0 (fun v1 H1 => v1 = v ∧ H1 = H0) e T (H0 ++ X ++ Y ++ Z) := by
  rw [List.append_assoc, List.append_assoc] at hr ⊢; exact bodyQ_same he hr hb ⟨hv, rfl⟩
theorem bodyQ_d4 (he : e = .normal ∨ e = .ret) (hr : resL P T (H0 ++ X ++ Y ++ Z ++ U) fn.results.toList = some vs) (hb : Bel H0.length (oneOf vs)) (hv : oneOf vs = v) :
    bodyQ P fn H0 (fun v1 H1 => v1 = v ∧ H1 = H0) e T (H0 ++ X ++ Y ++ Z ++ U) := by
  rw [List.append_assoc, List.append_assoc, List.append_assoc] at hr ⊢; exact bodyQ_same he hr hb ⟨hv, rfl⟩

end steps

/-! ### what a program's types come to -/

section types
variable {P : Program} {t e : TypeId}

def infoA (P : Program) (t : TypeId) : Option (Option Value × Nat × Nat) := (P.info? t).map fun i => (i.zero, i.size, i.bytes)

theorem infoA_some {z : Option Value} {k b : Nat} (h : infoA P t = some (z, k, b)) : ∃ i, P.info? t = some i ∧ i.zero = z ∧ i.size = k ∧ i.bytes = b := by
  unfold infoA at h
  simp only [Option.map_eq_some_iff, Prod.mk.injEq] at h
  obtain ⟨i, hi, h1, h2, h3⟩ := h
  exact ⟨i, hi, h1, h2, h3⟩

theorem load_agg {d : TypeDesc} {z : Option Value} {k b : Nat} (hu : P.underlying t = some d) (hd : (match d with | .struct _ | .array _ _ => true | _ => false) = true) (h : infoA P t = some (z, k, b)) (cs : List AV) (off : Nat) :
    loadA P t cs off = if off + k ≤ cs.length then some (.agg ((cs.drop off).take k)) else none := by
  obtain ⟨i, hi, _, rfl, _⟩ := infoA_some h
  unfold loadA
  rw [hu, hi]
  cases d <;> first | rfl | cases hd

theorem load_one {d : TypeDesc} {z : Option Value} {k b : Nat} (hu : P.underlying t = some d) (hd : (match d with | .struct _ | .array _ _ => true | _ => false) = false) (h : infoA P t = some (z, k, b)) (cs : List AV) (off : Nat) :
    loadA P t cs off = cs[off]? := by
  obtain ⟨i, hi, _, rfl, _⟩ := infoA_some h
  unfold loadA
  rw [hu, hi]
  cases d <;> first | rfl | cases hd

theorem size_of {z : Option Value} {k b : Nat} (h : infoA P t = some (z, k, b)) : sizeA P t = some k := by
  obtain ⟨i, hi, _, rfl, _⟩ := infoA_some h
  simp [sizeA, hi]

theorem zero_of {z : Value} {k b : Nat} (h : infoA P t = some (some z, k, b)) : zeroA P t = some (z.cells.toList.map .val) := by
  obtain ⟨i, hi, h1, rfl, _⟩ := infoA_some h
  simp [zeroA, hi, h1]

theorem elem_of {k : Nat} (hu : P.underlying t = some (.slice e)) (h : sizeA P e = some k) : elemA P t = .sl e k := by
  unfold elemA
  rw [hu]
  simp only [h]

theorem elem_arr {k n : Nat} (hu : P.underlying t = some (.array n e)) (h : sizeA P e = some k) (hn : 2 ≤ n) : elemA P t = .ar n e k := by
  unfold elemA
  rw [hu]
  simp only [h, hn, if_true]

theorem field_off {fs : Array Field} {f ft fo k : Nat} (hu : P.underlying t = some (.struct fs)) (hf : (fs[f]?).map (fun x => (x.type, x.offset)) = some (ft, fo)) (h : sizeA P ft = some k) (hk : 0 < k) : fieldOff P t f = some fo := by
  simp only [Option.map_eq_some_iff, Prod.mk.injEq] at hf
  obtain ⟨fl, hf, rfl, rfl⟩ := hf
  obtain ⟨i, hi, rfl⟩ := Option.map_eq_some_iff.1 h
  unfold fieldOff
  rw [hu]
  simp only [hf, hi]
  rw [if_neg (by omega)]

theorem field_to {fs : Array Field} {f ft fo : Nat} (hu : P.underlying t = some (.struct fs)) (hf : (fs[f]?).map (fun x => (x.type, x.offset)) = some (ft, fo)) : fieldTO P t f = some (ft, fo) := by
  simp only [Option.map_eq_some_iff, Prod.mk.injEq] at hf
  obtain ⟨fl, hf, rfl, rfl⟩ := hf
  unfold fieldTO
  rw [hu]
  simp only [hf]

def appendB (e : TypeId) (k b : Nat) (s x : AV) (H : Hp) : Option (AV × Hp) :=
  match srcA k x H with
  | some xs =>
    if xs.length = 0 then (match s with | .val (.slice none 0 0) => some (s, H) | .rsl .. => some (s, H) | .msl .. => some (s, H) | _ => none)
    else match s with
      | .val (.slice none 0 0) => if xs.length * b ≤ 140737488355328 then some (.msl H.length 0 xs.length, H ++ [.cells xs e]) else none
      | .rsl es true => if es.all (fun e => e.length == k) ∧ (es.length + xs.length) * b ≤ 140737488355328 then some (.msl H.length 0 (es.length + xs.length), H ++ [.cells (es ++ xs) e]) else none
      | .msl c 0 len => match H[c]? with
        | some (.cells es e') =>
          if e' = e ∧ len ≤ es.length ∧ 0 < es.length ∧ es.all (fun e => e.length == k) ∧ xs.all (fun e => e.all AV.isCell) ∧ (len + xs.length) * b ≤ 140737488355328 then
            some (.msl H.length 0 (len + xs.length), H.set c .dead ++ [.cells (es.take len ++ xs) e]) else none
        | _ => none
      | _ => none
  | none => none

theorem append_of {z : Value} {k b : Nat} (hu : P.underlying t = some (.slice e)) (h : infoA P e = some (some z, k, b)) (hz : z.cells.size = k) (hk : 0 < k) (hb : 0 < b) (s x : AV) (H : Hp) :
    appendA P t t s x H = appendB e k b s x H := by
  obtain ⟨i, hi, h1, rfl, rfl⟩ := infoA_some h
  unfold appendA appendB
  rw [if_pos rfl, hu]
  simp only [hi, h1]
  rw [if_pos ⟨hz, hk, hb⟩]
  rfl

theorem make_of {z : Value} {k b : Nat} (hu : P.underlying t = some (.slice e)) (h : infoA P e = some (some z, k, b)) (hz : z.cells.size = k) (hk : 0 < k) (n : Int) :
    makeA P t n = if 0 ≤ n ∧ b * n ≤ 281474976710656 ∧ n ≤ 9223372036854775807 then some (List.replicate n.toNat (z.cells.toList.map .val), e) else none := by
  obtain ⟨i, hi, h1, rfl, rfl⟩ := infoA_some h
  unfold makeA
  rw [hu]
  simp only [hi, h1, hz, hk, true_and]

theorem lit_of {z : Value} {k b : Nat} (hu : P.underlying t = some (.slice e)) (h : infoA P e = some (some z, k, b)) (hz : z.cells.size = k) (hk : 0 < k) (len : Nat) (ps : List (Nat × AV)) :
    litA P t len ps = if len * k ≤ 16777216 then (fillE k (List.replicate len (z.cells.toList.map .val)) ps).map fun es => (es, e) else none := by
  obtain ⟨i, hi, h1, rfl, rfl⟩ := infoA_some h
  unfold litA
  rw [hu]
  simp only [hi, h1, hz, hk, true_and]

def sliceB (k : Nat) (x : AV) (lo hi mx : Option AV) : Option AV :=
  match x with
  | .rsl es ex => match bnd 0 lo, bnd es.length hi, bnd es.length mx with
    | some l, some h, some m =>
      if l ≤ h ∧ h ≤ m ∧ m ≤ es.length ∧ (l = h ∨ (es[l]?).map List.length = some k) ∧ (mx.isSome → hi.isSome) then
        some (.rsl ((es.take h).drop l) (if mx.isSome then m == h else ex && h == es.length)) else none
    | _, _, _ => none
  | .msl b off len => match bnd 0 lo, bnd len hi, mx with
    | some l, some h, none => if l ≤ h ∧ h ≤ len then (if l = 0 then some (.msl b off h) else if l = h then some (.rsl [] false) else none) else none
    | _, _, _ => none
  | .val (.slice none 0 0) => match bnd 0 lo, bnd 0 hi, mx with
    | some l, some h, none => if l ≤ h ∧ h ≤ 0 then some (.val (.slice none 0 0)) else none
    | _, _, _ => none
  | _ => none

theorem slice_of {k : Nat} (hu : P.underlying t = some (.slice e)) (h : sizeA P e = some k) (x : AV) (lo hi mx : Option AV) : sliceA P t x lo hi mx = sliceB k x lo hi mx := by
  obtain ⟨i, hi, rfl⟩ := Option.map_eq_some_iff.1 h
  unfold sliceA sliceB
  rw [hu]
  simp only [hi]
  cases x with
  | val v => cases v with
    | slice a n c => cases a <;> cases n <;> cases c <;> rfl
    | _ => rfl
  | _ => rfl

theorem fillA_congr {p q : Nat → Option (Nat × Nat)} (h : ∀ i, p i = q i) (cs : List AV) (ps : List (Nat × AV)) : fillA p cs ps = fillA q cs ps := by
  have : p = q := funext h
  rw [this]

theorem build_of {fs : Array Field} {z : Value} {k b : Nat} {pl : List (Nat × Nat)} (hu : P.underlying t = some (.struct fs)) (h : infoA P t = some (some z, k, b))
    (hpl : fs.toList.map (fun f => (sizeA P f.type).map fun s => (f.offset, s)) = pl.map some) (ps : List (Nat × AV)) :
    buildA P t ps = (fillA (fun i => pl[i]?) (z.cells.toList.map .val) ps).map .agg := by
  obtain ⟨i, hi, h1, rfl, rfl⟩ := infoA_some h
  unfold buildA
  rw [hu]
  simp only [hi, h1]
  have hget : ∀ j : Nat, (fs[j]?).map (fun f => (sizeA P f.type).map fun s => (f.offset, s)) = (pl[j]?).map some := by
    intro j
    have := congrArg (fun l => l[j]?) hpl
    simpa using this
  have hall : fs.toList.all (fun f => (P.info? f.type).isSome) = true := by
    rw [List.all_eq_true]
    intro f hf
    obtain ⟨j, hj⟩ := List.getElem?_of_mem hf
    have hj' : fs[j]? = some f := by simpa using hj
    have := hget j
    rw [hj', Option.map_some] at this
    cases hp : pl[j]? with
    | none => rw [hp] at this; cases this
    | some q =>
      rw [hp, Option.map_some, Option.some.injEq] at this
      obtain ⟨s, hs, _⟩ := Option.map_eq_some_iff.1 this
      obtain ⟨i', hi', _⟩ := Option.map_eq_some_iff.1 hs
      simp [hi']
  rw [if_pos hall]
  congr 1
  refine fillA_congr (fun j => ?_) _ _
  have := hget j
  unfold placeA
  cases hf : fs[j]? with
  | none =>
    rw [hf] at this
    cases hp : pl[j]? with
    | none => rfl
    | some q => rw [hp] at this; cases this
  | some f =>
    rw [hf, Option.map_some] at this
    cases hp : pl[j]? with
    | none => rw [hp] at this; cases this
    | some q =>
      rw [hp, Option.map_some, Option.some.injEq] at this
      obtain ⟨s, hs, rfl⟩ := Option.map_eq_some_iff.1 this
      obtain ⟨i', hi', rfl⟩ := Option.map_eq_some_iff.1 hs
      simp [hi']

end types

theorem w64 {x : Int} (h1 : -9223372036854775808 ≤ x) (h2 : x ≤ 9223372036854775807) : IntKind.i64.wrap x = x := by
  rw [IntKind.wrap_i64]; omega

theorem wsucc {i n : Nat} (h : i < n) (hn : n ≤ maxLen) : IntKind.i64.wrap ((i : Int) + 1) = ((i + 1 : Nat) : Int) := by
  simp only [maxLen] at hn
  rw [w64 (by omega) (by omega)]; rfl

theorem ite_min (x y : Int) : (if y < x then y else x) = min x y := by
  split <;> omega
theorem ite_max (x y : Int) : (if y > x then y else x) = max x y := by
  split <;> omega

/-- a row of ints -/
theorem bad_first {α : Type} {p : α → Bool} {l : List α} {i : Nat} {x : α} (h : l[i]? = some x) (hx : p x = true) : l.any p = true :=
  List.any_eq_true.2 ⟨x, List.mem_of_getElem? h, hx⟩

theorem bad_none {α : Type} {p : α → Bool} {l : List α} (h : ∀ (j : Nat) (x : α), l[j]? = some x → p x = false) : l.any p = false := by
  rw [List.any_eq_false]
  intro x hx
  obtain ⟨j, hj⟩ := List.getElem?_of_mem hx
  simp [h j x hj]

/-- an operator of two operands that are no two numbers -/
def binR (P : Program) (op : BinOp) (t : TypeId) (x y : Operand) (a b : AV) : Option AV :=
  match op with
  | .eql => if (nilKind P t a && nilOf P t b) || (nilOf P t a && nilKind P t b) then some (.val (.bool false)) else
      match a.flat, b.flat with
      | some u, some v => match aggEq P t u v with
        | some r => some (.val (.bool (r)))
        | none => (pureRun P (do eqGuard .eql t x y u v; binOp .eql t u v)).map .val
      | _, _ => none
  | .neq => if (nilKind P t a && nilOf P t b) || (nilOf P t a && nilKind P t b) then some (.val (.bool true)) else
      match a.flat, b.flat with
      | some u, some v => match aggEq P t u v with
        | some r => some (.val (.bool (!r)))
        | none => (pureRun P (do eqGuard .neq t x y u v; binOp .neq t u v)).map .val
      | _, _ => none
  | op => match a.flat, b.flat with
      | some u, some v => (pureRun P (do eqGuard op t x y u v; binOp op t u v)).map .val
      | _, _ => none

theorem binA_int {P : Program} {op : BinOp} {t : TypeId} {x y : Operand} (k k' : IntKind) (m n : Int) : binA P op t x y (.val (.int k m)) (.val (.int k' n)) = intA P op t k m k' n := rfl
theorem binA_bool {P : Program} {op : BinOp} {t : TypeId} {x y : Operand} (p : Bool) (b : AV) : binA P op t x y (.val (.bool p)) b = binR P op t x y (.val (.bool p)) b := by cases op <;> rfl
theorem binA_str {P : Program} {op : BinOp} {t : TypeId} {x y : Operand} (p : ByteArray) (b : AV) : binA P op t x y (.val (.string p)) b = binR P op t x y (.val (.string p)) b := by cases op <;> rfl
theorem binA_ptr {P : Program} {op : BinOp} {t : TypeId} {x y : Operand} (p : Option Addr) (b : AV) : binA P op t x y (.val (.pointer p)) b = binR P op t x y (.val (.pointer p)) b := by cases op <;> rfl
theorem binA_sl {P : Program} {op : BinOp} {t : TypeId} {x y : Operand} (p : Option Addr) (n c : Nat) (b : AV) : binA P op t x y (.val (.slice p n c)) b = binR P op t x y (.val (.slice p n c)) b := by cases op <;> rfl
theorem binA_map {P : Program} {op : BinOp} {t : TypeId} {x y : Operand} (p : Option Nat) (b : AV) : binA P op t x y (.val (.map p)) b = binR P op t x y (.val (.map p)) b := by cases op <;> rfl
theorem binA_nf {P : Program} {op : BinOp} {t : TypeId} {x y : Operand} (b : AV) : binA P op t x y (.val .nilFunc) b = binR P op t x y (.val .nilFunc) b := by cases op <;> rfl
theorem binA_rptr {P : Program} {op : BinOp} {t : TypeId} {x y : Operand} (cs : List AV) (o : Nat) (b : AV) : binA P op t x y (.rptr cs o) b = binR P op t x y (.rptr cs o) b := by cases op <;> rfl
theorem binA_mptr {P : Program} {op : BinOp} {t : TypeId} {x y : Operand} (i j o : Nat) (b : AV) : binA P op t x y (.mptr i j o) b = binR P op t x y (.mptr i j o) b := by cases op <;> rfl
theorem binA_rsl {P : Program} {op : BinOp} {t : TypeId} {x y : Operand} (es : List (List AV)) (e : Bool) (b : AV) : binA P op t x y (.rsl es e) b = binR P op t x y (.rsl es e) b := by cases op <;> rfl
theorem binA_msl {P : Program} {op : BinOp} {t : TypeId} {x y : Operand} (i o n : Nat) (b : AV) : binA P op t x y (.msl i o n) b = binR P op t x y (.msl i o n) b := by cases op <;> rfl
theorem binA_mp {P : Program} {op : BinOp} {t : TypeId} {x y : Operand} (i : Nat) (b : AV) : binA P op t x y (.mp i) b = binR P op t x y (.mp i) b := by cases op <;> rfl
theorem binA_fn {P : Program} {op : BinOp} {t : TypeId} {x y : Operand} (f : Fn) (cs : List AV) (b : AV) : binA P op t x y (.fn f cs) b = binR P op t x y (.fn f cs) b := by cases op <;> rfl

attribute [go_sem] upd_app env0_app stepA evA guardA binA_int binA_bool binA_str binA_ptr binA_sl binA_map binA_nf binA_rptr binA_mptr binA_rsl binA_msl binA_mp binA_fn binR unA intA boxA isMu AV.cells AV.flat AV.flats Value.cells partsA builtinA lenA maxA maxF appendB srcA sliceB bnd fillA fillE setAt resL resV oneOf
  List.getD_cons_zero List.getD_cons_succ Option.map_some Option.map_none List.map_cons List.map_nil List.getElem?_cons_zero List.getElem?_cons_succ List.getElem?_nil List.length_cons List.length_nil
  List.drop_succ_cons List.drop_zero List.take_succ_cons List.take_zero List.nil_append List.cons_append List.append_nil Option.isSome_some Option.isSome_none Bool.false_eq_true if_true if_false
  Bool.or_true Bool.or_false Bool.true_or Bool.false_or Bool.and_true Bool.and_false Bool.true_and Bool.false_and beq_self_eq_true Bool.not_true Bool.not_false nilKind nilOf true_and and_true get_new get_mid get_mid2 get_mid3 set_new set_mid set_mid2 set_mid3 Int.toNat_natCast Int.natCast_nonneg ge_iff_le List.length_map ite_min ite_max List.replicate_succ List.replicate_zero List.set_cons_zero List.set_cons_succ List.all_cons List.all_nil AV.isCell bne_self_eq_false decide_true decide_false

end Go.Proofs.Ytdmgljlabigljaa.Ab

namespace Go.Proofs.Ytdmgljlabigljaa.Ab
open Go Go.RowKit
variable {P : Program} {n : Nat} {rd : Option Nat} {T T' : Env} {H : Hp} {Q : Exit → Env → Hp → Prop}

/-- a row of one's own that never turns again, wherever a slot has it -/
theorem Awp.freeze {c : Code} {b : Nat} {es : List (List AV)} {t : TypeId} (hb : H[b]? = some (.cells es t))
    (hT : ∀ s, T' s = T s ∨ ∃ off len, T s = .msl b off len ∧ off + len ≤ es.length ∧ T' s = .rsl ((es.drop off).take len) false)
    (h : Awp P n rd c T' (H.set b .dead) Q) : Awp P n rd c T H Q := by
  intro base w0 g w a r S hTR hr
  obtain ⟨y, o, h1, _, _⟩ := S.obj b _ hb (by simp)
  obtain ⟨g', h2, h3, h4⟩ := freeze_R S hb h1
  have hTR' : TRel g' n T' a.tmps := by
    refine ⟨hTR.size, fun s => ?_⟩
    rcases hT s with e | ⟨off, len, e, hfit, e'⟩
    · rw [e]; exact (hTR.slot s).mono h2
    · rw [e']
      have := hTR.slot s
      rw [e] at this
      exact h4 off len _ hfit this
  refine wpIn_mono (h base w0 g' w a r h3 hTR' (hr.mono h2)) fun e a2 w2 ⟨T2, H2, g2, ds, k1, k2, k3, k4, k5, k6⟩ => ?_
  exact ⟨T2, H2, g2, ds, k1, h2.trans k2, k3, k4, k5, by simpa using (Marks.nil g g').append k6 h2 k2⟩

/-- what is known of the slots -/
theorem Awp.withT {c : Code} (p : Env → Prop) (hp : p T) (h : ∀ T', p T' → Awp P n rd c T' H Q) : Awp P n rd c T H Q := h T hp

/-- what is known of the heap's first part -/
theorem Awp.withH {c : Code} {B X : Hp} (p : Hp → Prop) (hp : p B) (h : ∀ A, p A → Awp P n rd c T (A ++ X) Q) : Awp P n rd c T (B ++ X) Q := h B hp

/-- two slots that have the row -/
theorem Awp.freeze1 {c : Code} {b : Nat} {es : List (List AV)} {t : TypeId} (s len : Nat) (hs : T s = .msl b 0 len) (hfit : len ≤ es.length) (hb : H[b]? = some (.cells es t))
    (h : Awp P n rd c (upd T s (.rsl (es.take len) false)) (H.set b .dead) Q) : Awp P n rd c T H Q := by
  refine Awp.freeze hb (fun s' => ?_) h
  by_cases e : s' = s
  · subst e
    exact .inr ⟨0, len, hs, by omega, by simp [upd]⟩
  · exact .inl (by simp [upd, e])

theorem Bel.mono {m m' : Nat} (hm : m ≤ m') {a : AV} (h : Bel m a) : Bel m' a := by
  induction h with
  | val v => exact .val v
  | rptr _ ih => exact .rptr ih
  | mptr h => exact .mptr (Nat.lt_of_lt_of_le h hm)
  | rsl _ ih => exact .rsl ih
  | msl h => exact .msl (Nat.lt_of_lt_of_le h hm)
  | fn hy _ ih => exact .fn hy ih
  | mth _ ih => exact .mth ih
  | yld h => exact .yld (Nat.lt_of_lt_of_le h hm)
  | mp h => exact .mp (Nat.lt_of_lt_of_le h hm)
  | agg _ ih => exact .agg ih
  | tup _ ih => exact .tup ih

theorem BelO.mono {m m' : Nat} (hm : m ≤ m') {a : AObj} (h : BelO m a) : BelO m' a := by
  cases h with
  | cells h => exact .cells fun e he c hc => (h e he c hc).mono hm
  | amap h => exact .amap fun e he => ⟨(h e he).1.mono hm, (h e he).2.mono hm⟩
  | amapC h => exact .amapC fun e he => ⟨(h e he).1.mono hm, (h e he).2.mono hm⟩
  | miter h => exact .miter (by omega)
  | siter s p => exact .siter s p
  | loop h => exact .loop fun t => (h t).mono hm
  | dead => exact .dead

theorem BelO_cells {m : Nat} {es : List (List AV)} {t : TypeId} (h : ∀ e ∈ es, ∀ c ∈ e, Bel m c) : BelO m (.cells es t) := .cells h
theorem Bel_iff_tup (m : Nat) (cs : List AV) : Bel m (.tup cs) ↔ ∀ c ∈ cs, Bel m c := ⟨fun h => by cases h; assumption, .tup⟩
theorem Bel_iff_agg (m : Nat) (cs : List AV) : Bel m (.agg cs) ↔ ∀ c ∈ cs, Bel m c := ⟨fun h => by cases h; assumption, .agg⟩
theorem Bel_iff_rsl (m : Nat) (es : List (List AV)) (ex : Bool) : Bel m (.rsl es ex) ↔ ∀ e ∈ es, ∀ c ∈ e, Bel m c := ⟨fun h => by cases h; assumption, .rsl⟩
theorem Bel_iff_mptr (m b i off : Nat) : Bel m (.mptr b i off) ↔ b < m := ⟨fun h => by cases h; assumption, .mptr⟩
theorem Bel_iff_fn (m : Nat) (k : FuncId) (cs : List AV) : Bel m (.fn (.func k) cs) ↔ ∀ c ∈ cs, Bel m c := ⟨fun h => by cases h; assumption, .fn (by intro l h; cases h)⟩
theorem Bel_iff_rptr (m : Nat) (cs : List AV) (off : Nat) : Bel m (.rptr cs off) ↔ ∀ c ∈ cs, Bel m c := ⟨fun h => by cases h; assumption, .rptr⟩
theorem Bel_iff_msl (m b off len : Nat) : Bel m (.msl b off len) ↔ b < m := ⟨fun h => by cases h; assumption, .msl⟩

theorem bel_append {H0 X : Hp} (hX : ∀ c ∈ X, BelO (H0 ++ X).length c) (h : ∀ (b : Nat) (ob : AObj), H0[b]? = some ob → ob ≠ .dead → BelO H0.length ob) :
    ∀ (b : Nat) (ob : AObj), (H0 ++ X)[b]? = some ob → ob ≠ .dead → BelO (H0 ++ X).length ob := by
  intro b ob hb hn
  rw [List.getElem?_append] at hb
  split at hb
  · exact (h b ob hb hn).mono (by simp)
  · exact hX ob (List.mem_of_getElem? hb)

variable {fn : Func} {H0 X : Hp} {e : Exit} {Post : AV → Hp → Prop} {vs : List AV}

theorem bodyQ_mk {H' : Hp} {a : AV} (he : e = .normal ∨ e = .ret) (hr : resL P T H fn.results.toList = some vs) (hv : Vs H0 (oneOf vs) H a H') (hp : Post a H') : bodyQ P fn H0 Post e T H := ⟨he, vs, a, H', hr, hv, hp⟩

/-- a body that hands back new blocks Y -/
theorem bodyQ_new {Y : Hp} (he : e = .normal ∨ e = .ret) (hr : resL P T (H0 ++ Y ++ X) fn.results.toList = some vs) (hY : ∀ c ∈ Y, BelO (H0 ++ Y).length c) (hb : Bel (H0 ++ Y).length (oneOf vs)) (hp : Post (oneOf vs) (H0 ++ Y)) :
    bodyQ P fn H0 Post e T (H0 ++ Y ++ X) :=
  ⟨he, vs, oneOf vs, H0 ++ Y, hr, Vs.dropTo (by simp) (bel_append hY) hb, hp⟩

end Go.Proofs.Ytdmgljlabigljaa.Ab

namespace Go.Proofs.Ytdmgljlabigljaa.Ab
open Go Go.RowKit
variable {base : Nat} {w0 w : World} {g : Gh} {P : Program}

/-- own blocks from number m on are forgotten, but for p, which is number m now -/
def Gh.moved (g : Gh) (m p : Nat) : Gh :=
  { g with ph := fun b => if b < m then g.ph b else if b = m then g.ph p else none, ks := fun b => if b = m then g.ks p else g.ks b, cp := fun b => if b = m then g.cp p else g.cp b }

theorem Bel.moved {m p : Nat} {a : AV} {v : Value} (hb : Bel m a) (h : R g a v) : R (g.moved m p) a v := by
  refine @R.mono4 (g.cut m) (g.moved m p) (fun _ _ _ h => h) (fun b x h => ?_) (fun b x h => ?_) (fun b x h => ?_) a v (hb.cut h)
  · change (if b < m then g.ph b else none) = some x at h
    show (if b < m then g.ph b else _) = some x
    split at h
    · rename_i hlt; rw [if_pos hlt]; exact h
    · cases h
  · change (if b < m then g.ph b else none) = some x at h
    show (if b = m then g.ks p else g.ks b) = g.ks b
    split at h
    · rw [if_neg (by omega)]
    · cases h
  · change (if b < m then g.ph b else none) = some x at h
    show (if b = m then g.cp p else g.cp b) = g.cp b
    split at h
    · rw [if_neg (by omega)]
    · cases h

theorem BelO.moved {m p k cp : Nat} {ob : AObj} {o : Obj} (hb : BelO m ob) (h : ORel g k cp ob o) : ORel (g.moved m p) k cp ob o := by
  cases h with
  | cells hs hl hk hr =>
    cases hb with
    | cells hb =>
      refine .cells hs hl hk fun i e j c he hc => ?_
      obtain ⟨v, h1, h2⟩ := hr i e j c he hc
      exact ⟨v, h1, (hb e (List.mem_of_getElem? he) c (List.mem_of_getElem? hc)).moved h2⟩
  | loop h =>
    cases hb with
    | loop hb => exact .loop ⟨h.size, fun t => (hb t).moved (h.slot t)⟩
  | amap hl hr hs =>
    cases hb with
    | amap hb => exact .amap hl (fun i e m he hm => ⟨(hb e (List.mem_of_getElem? he)).1.moved (hr i e m he hm).1, (hb e (List.mem_of_getElem? he)).2.moved (hr i e m he hm).2⟩) hs
  | amapC hl hr hs hss =>
    cases hb with
    | amapC hb => exact .amapC hl (fun i e m he hm => ⟨(hb e (List.mem_of_getElem? he)).1.moved (hr i e m he hm).1, (hb e (List.mem_of_getElem? he)).2.moved (hr i e m he hm).2⟩) hs hss
  | miter h =>
    cases hb with
    | miter hb =>
      refine .miter ?_
      rename_i b x c ss seen
      show (if b < m then g.ph b else _) = _
      rw [if_pos hb]; exact h
  | siter s p => exact .siter s p
  | dead => exact .dead _

theorem Vs.move {H0 A G : Hp} {blk : AObj} {s len : Nat} {pre post : List AV} {t : TypeId} {a : AV} (hl : H0.length ≤ A.length) (hs : A[s]? = some (.cells [pre ++ .msl (A ++ G).length 0 len :: post] t))
    (hpre : ∀ c ∈ pre, Bel A.length c) (hpost : ∀ c ∈ post, Bel A.length c)
    (hA : (∀ (b : Nat) (ob : AObj), H0[b]? = some ob → ob ≠ .dead → BelO H0.length ob) → ∀ (b : Nat) (ob : AObj), b ≠ s → A[b]? = some ob → ob ≠ .dead → BelO A.length ob) (hblk : BelO A.length blk) (ha : Bel A.length a) :
    Vs H0 a (A ++ G ++ [blk]) a (A.set s (.cells [pre ++ .msl A.length 0 len :: post] t) ++ [blk]) := by
  intro base w0 g0 g w x hd hb hg S hR
  have hslt : s < A.length := (List.getElem?_eq_some_iff.1 hs).1
  have hlen : (A.set s (.cells [pre ++ .msl A.length 0 len :: post] t)).length = A.length := by simp
  -- where the objects were
  have old : ∀ (b : Nat) (ob : AObj), (A.set s (.cells [pre ++ .msl A.length 0 len :: post] t) ++ [blk])[b]? = some ob →
      (b = s ∧ ob = .cells [pre ++ .msl A.length 0 len :: post] t) ∨ (b ≠ s ∧ b < A.length ∧ A[b]? = some ob ∧ (A ++ G ++ [blk])[b]? = some ob) ∨ (b = A.length ∧ ob = blk) := by
    intro b ob h
    rw [List.getElem?_append] at h
    split at h
    · rename_i hlt
      rw [hlen] at hlt
      rw [List.getElem?_set] at h
      split at h
      · rename_i e
        cases h
        exact .inl ⟨e.symm, rfl⟩
      · rename_i e
        refine .inr (.inl ⟨fun h => e h.symm, hlt, h, ?_⟩)
        rw [List.append_assoc, List.getElem?_append_left hlt]; exact h
    · rename_i hge
      rw [hlen] at hge h
      have : b - A.length = 0 := by
        rcases Nat.eq_zero_or_pos (b - A.length) with h0 | h0
        · exact h0
        · rw [List.getElem?_eq_none (by simp; omega)] at h; cases h
      rw [this] at h
      simp at h
      exact .inr (.inr ⟨by omega, h.symm⟩)
  have hsS : (A ++ G ++ [blk])[s]? = some (.cells [pre ++ .msl (A ++ G).length 0 len :: post] t) := by
    rw [List.append_assoc, List.getElem?_append_left hslt]; exact hs
  have hpS : (A ++ G ++ [blk])[(A ++ G).length]? = some blk := get_new _ _
  have hne : (A ++ G).length ≠ s := by simp; omega
  -- the number that an object had
  let q : Nat → Nat := fun b => if b = A.length then (A ++ G).length else b
  have hph : ∀ (b x : Nat), (g.moved A.length (A ++ G).length).ph b = some x → b ≤ A.length ∧ g.ph (q b) = some x := by
    intro b x h
    change (if b < A.length then g.ph b else if b = A.length then g.ph (A ++ G).length else none) = some x at h
    split at h
    · rename_i hlt
      refine ⟨by omega, ?_⟩
      show g.ph (if b = A.length then _ else b) = _
      rw [if_neg (by omega)]; exact h
    · split at h
      · rename_i e
        refine ⟨by omega, ?_⟩
        show g.ph (if b = A.length then _ else b) = _
        rw [if_pos e]; exact h
      · cases h
  have hq : ∀ (b : Nat) (ob : AObj), (A.set s (.cells [pre ++ .msl A.length 0 len :: post] t) ++ [blk])[b]? = some ob → ob ≠ .dead → ∃ ob', (A ++ G ++ [blk])[q b]? = some ob' ∧ ob' ≠ .dead := by
    intro b ob h hn
    rcases old b ob h with ⟨rfl, rfl⟩ | ⟨h1, h2, h3, h4⟩ | ⟨rfl, rfl⟩
    · refine ⟨.cells [pre ++ .msl (A ++ G).length 0 len :: post] t, ?_, by simp⟩
      · show (A ++ G ++ [blk])[if b = A.length then _ else b]? = _
        rw [if_neg (by omega)]; exact hsS
    · refine ⟨ob, ?_, hn⟩
      show (A ++ G ++ [blk])[if b = A.length then _ else b]? = _
      rw [if_neg (by omega)]; exact h4
    · refine ⟨ob, ?_, hn⟩
      show (A ++ G ++ [ob])[if A.length = A.length then _ else _]? = _
      rw [if_pos rfl]; exact hpS
  have qinj : ∀ b c, b ≤ A.length → c ≤ A.length → q b = q c → b = c := by
    intro b c h1 h2 h
    change (if b = A.length then (A ++ G).length else b) = (if c = A.length then (A ++ G).length else c) at h
    have : A.length ≤ (A ++ G).length := by simp
    split at h <;> split at h <;> omega
  refine ⟨g.moved A.length (A ++ G).length, ⟨hg.fz, fun b y h => ?_, fun b y h => ?_, fun b y h => ?_, hg.mr⟩, ?_, ha.moved hR⟩
  · have := hd b y h
    show (if b < A.length then g.ph b else _) = some y
    rw [if_pos (by omega)]; exact hg.ph b y h
  · have := hd b y h
    show (if b = A.length then _ else g.ks b) = _
    rw [if_neg (by omega)]; exact hg.ks b y h
  · have := hd b y h
    show (if b = A.length then _ else g.cp b) = _
    rw [if_neg (by omega)]; exact hg.cp b y h
  · exact
    { below := S.below
      low := S.low
      fz := S.fz
      dom := fun b x h => by have := (hph b x h).1; simp; omega
      pos := fun b x h => S.pos _ x (hph b x h).2
      sep := fun b x ob h hn hx => by
        obtain ⟨ob', h1, h2⟩ := hq b ob h hn
        exact S.sep _ x ob' h1 h2 (hph b x hx).2
      inj := fun b c x ob oc h hn h' hn' hx hx' => by
        obtain ⟨ob1, h1, h2⟩ := hq b ob h hn
        obtain ⟨ob2, k1, k2⟩ := hq c oc h' hn'
        exact qinj b c (hph b x hx).1 (hph c x hx').1 (S.inj _ _ x ob1 ob2 h1 h2 k1 k2 (hph b x hx).2 (hph c x hx').2)
      obj := fun b ob h hn => by
        rcases old b ob h with ⟨rfl, rfl⟩ | ⟨h1, h2, h3, h4⟩ | ⟨rfl, rfl⟩
        · obtain ⟨x, o, k1, k2, k3⟩ := S.obj b _ hsS (by simp)
          refine ⟨x, o, ?_, k2, ?_⟩
          · show (if b < A.length then g.ph b else _) = _
            rw [if_pos hslt]; exact k1
          · have e1 : (g.moved A.length (A ++ G).length).ks b = g.ks b := by show (if b = A.length then _ else _) = _; rw [if_neg (by omega)]
            have e2 : (g.moved A.length (A ++ G).length).cp b = g.cp b := by show (if b = A.length then _ else _) = _; rw [if_neg (by omega)]
            rw [e1, e2]
            cases k3 with
            | cells hsz hle hk hr =>
              refine .cells hsz (by simpa using hle) (fun i e he => ?_) (fun i e j c he hc => ?_)
              · rcases i with _ | i
                · simp at he; subst he
                  have := hk 0 _ rfl
                  simpa using this
                · simp at he
              · rcases i with _ | i
                · simp at he; subst he
                  by_cases hj : j = pre.length
                  · subst hj
                    rw [List.getElem?_append_right (Nat.le_refl _), Nat.sub_self] at hc
                    simp at hc; subst hc
                    obtain ⟨v, v1, v2⟩ := hr 0 _ pre.length (.msl (A ++ G).length 0 len) rfl (by rw [List.getElem?_append_right (Nat.le_refl _), Nat.sub_self]; rfl)
                    refine ⟨v, v1, ?_⟩
                    cases v2 with
                    | msl hx hl' hc' hm =>
                      rename_i y cap
                      have e3 : g.ks (A ++ G).length = (g.moved A.length (A ++ G).length).ks A.length := by show _ = (if A.length = A.length then _ else _); rw [if_pos rfl]
                      rw [e3]
                      refine .msl ?_ hl' ?_ hm
                      · show (if A.length < A.length then _ else if A.length = A.length then g.ph _ else none) = _
                        rw [if_neg (by omega), if_pos rfl]; exact hx
                      · show _ = (if A.length = A.length then g.cp _ else _)
                        rw [if_pos rfl]; exact hc'
                  · have hc0 : (pre ++ AV.msl (A ++ G).length 0 len :: post)[j]? = some c := by
                      rw [List.getElem?_append] at hc ⊢
                      split at hc
                      · rename_i h; rw [if_pos h]; exact hc
                      · rename_i h
                        rw [if_neg h]
                        obtain ⟨d, hd'⟩ : ∃ d, j - pre.length = d + 1 := ⟨j - pre.length - 1, by omega⟩
                        rw [hd'] at hc ⊢
                        simpa using hc
                    obtain ⟨v, v1, v2⟩ := hr 0 _ j c rfl hc0
                    refine ⟨v, v1, Bel.moved ?_ v2⟩
                    rw [List.getElem?_append] at hc
                    split at hc
                    · exact hpre c (List.mem_of_getElem? hc)
                    · rename_i h
                      obtain ⟨d, hd'⟩ : ∃ d, j - pre.length = d + 1 := ⟨j - pre.length - 1, by omega⟩
                      rw [hd'] at hc
                      simp at hc
                      exact hpost c (List.mem_of_getElem? hc)
                · simp at he
        · obtain ⟨x, o, k1, k2, k3⟩ := S.obj b ob h4 hn
          refine ⟨x, o, ?_, k2, ?_⟩
          · show (if b < A.length then g.ph b else _) = _
            rw [if_pos h2]; exact k1
          · have e1 : (g.moved A.length (A ++ G).length).ks b = g.ks b := by show (if b = A.length then _ else _) = _; rw [if_neg (by omega)]
            have e2 : (g.moved A.length (A ++ G).length).cp b = g.cp b := by show (if b = A.length then _ else _) = _; rw [if_neg (by omega)]
            rw [e1, e2]
            exact (hA hb b ob h1 h3 hn).moved k3
        · obtain ⟨x, o, k1, k2, k3⟩ := S.obj _ ob hpS hn
          refine ⟨x, o, ?_, k2, ?_⟩
          · show (if A.length < A.length then _ else if A.length = A.length then g.ph _ else none) = _
            rw [if_neg (by omega), if_pos rfl]; exact k1
          · have e1 : (g.moved A.length (A ++ G).length).ks A.length = g.ks (A ++ G).length := by show (if A.length = A.length then _ else _) = _; rw [if_pos rfl]
            have e2 : (g.moved A.length (A ++ G).length).cp A.length = g.cp (A ++ G).length := by show (if A.length = A.length then _ else _) = _; rw [if_pos rfl]
            rw [e1, e2]
            exact hblk.moved k3
      marks := S.marks }

/-- an object told otherwise -/
theorem Sim.retell {H : Hp} (S : Sim base w0 g H w) {s : Nat} {ob ob' : AObj} (hs : H[s]? = some ob) (hn : ob ≠ .dead) (h : ∀ k cp o, ORel g k cp ob o → ORel g k cp ob' o) : Sim base w0 g (H.set s ob') w := by
  have hslt : s < H.length := (List.getElem?_eq_some_iff.1 hs).1
  have old : ∀ (b : Nat) (oc : AObj), (H.set s ob')[b]? = some oc → (b = s ∧ oc = ob') ∨ (b ≠ s ∧ H[b]? = some oc) := by
    intro b oc h
    rw [List.getElem?_set] at h
    split at h
    · rename_i e
      cases h
      exact .inl ⟨e.symm, rfl⟩
    · rename_i e
      exact .inr ⟨fun h => e h.symm, h⟩
  have was : ∀ (b : Nat) (oc : AObj), (H.set s ob')[b]? = some oc → oc ≠ .dead → ∃ od, H[b]? = some od ∧ od ≠ .dead := by
    intro b oc h hn'
    rcases old b oc h with ⟨rfl, _⟩ | ⟨_, h⟩
    · exact ⟨ob, hs, hn⟩
    · exact ⟨oc, h, hn'⟩
  exact
  { below := S.below
    low := S.low
    fz := S.fz
    dom := fun b x h => by simpa using S.dom b x h
    pos := S.pos
    sep := fun b x oc h hn' hx => by
      obtain ⟨od, h1, h2⟩ := was b oc h hn'
      exact S.sep b x od h1 h2 hx
    inj := fun b c x o1 o2 h1 n1 h2 n2 hx hy => by
      obtain ⟨p1, a1, a2⟩ := was b o1 h1 n1
      obtain ⟨p2, b1, b2⟩ := was c o2 h2 n2
      exact S.inj b c x p1 p2 a1 a2 b1 b2 hx hy
    obj := fun b oc h' hn' => by
      rcases old b oc h' with ⟨rfl, rfl⟩ | ⟨_, h1⟩
      · obtain ⟨x, o, k1, k2, k3⟩ := S.obj b ob hs hn
        exact ⟨x, o, k1, k2, h _ _ _ k3⟩
      · exact S.obj b oc h1 hn'
    marks := S.marks }

/-- a row that an object has never turns again -/
theorem Vs.freezeIn {H0 H : Hp} {a : AV} {s b len : Nat} {pre post : List AV} {es : List (List AV)} {t t' : TypeId} (hsb : s ≠ b) (hs : H[s]? = some (.cells [pre ++ .msl b 0 len :: post] t)) (hb : H[b]? = some (.cells es t')) (hfit : len ≤ es.length) :
    Vs H0 a H a ((H.set b .dead).set s (.cells [pre ++ .rsl (es.take len) false :: post] t)) := by
  intro base w0 g0 g w x _ _ hg S hR
  obtain ⟨y, o, h1, _, _⟩ := S.obj b _ hb (by simp)
  obtain ⟨g', h2, h3, h4⟩ := freeze_R S hb h1
  refine ⟨g', hg.trans h2, ?_, hR.mono h2⟩
  refine h3.retell (s := s) (ob := .cells [pre ++ .msl b 0 len :: post] t) ?_ (by simp) ?_
  · rw [List.getElem?_set_ne (fun e => hsb e.symm)]; exact hs
  · intro k cp o h
    -- the row's value is one that the old knowledge had
    cases h with
    | cells hsz hle hk hr =>
      obtain ⟨x2, o2, q1, q2, q3⟩ := S.obj s _ hs (by simp)
      refine .cells hsz (by simpa using hle) (fun i e he => ?_) (fun i e j c he hc => ?_)
      · rcases i with _ | i
        · simp at he; subst he
          have := hk 0 _ rfl
          simpa using this
        · simp at he
      · rcases i with _ | i
        · simp at he; subst he
          by_cases hj : j = pre.length
          · subst hj
            rw [List.getElem?_append_right (Nat.le_refl _), Nat.sub_self] at hc
            simp at hc; subst hc
            obtain ⟨v, v1, v2⟩ := hr 0 _ pre.length (.msl b 0 len) rfl (by rw [List.getElem?_append_right (Nat.le_refl _), Nat.sub_self]; rfl)
            refine ⟨v, v1, ?_⟩
            have v3 : R g (.msl b 0 len) v := by
              cases v2 with
              | msl hx hl' hc' hm =>
                have e1 := h2.ks b y h1
                have e2 := h2.cp b y h1
                have e3 := h2.ph b y h1
                rw [e3] at hx
                cases hx
                rw [e1]
                rw [e2] at hc'
                exact .msl h1 hl' hc' hm
            have := h4 0 len v (by omega) v3
            simpa using this
          · have hc0 : (pre ++ AV.msl b 0 len :: post)[j]? = some c := by
              rw [List.getElem?_append] at hc ⊢
              split at hc
              · rename_i h; rw [if_pos h]; exact hc
              · rename_i h
                rw [if_neg h]
                obtain ⟨d, hd'⟩ : ∃ d, j - pre.length = d + 1 := ⟨j - pre.length - 1, by omega⟩
                rw [hd'] at hc ⊢
                simpa using hc
            exact hr 0 _ j c rfl hc0
        · simp at he

end Go.Proofs.Ytdmgljlabigljaa.Ab

namespace Go.Proofs.Ytdmgljlabigljaa.Ab
open Go Go.RowKit

variable {base : Nat} {w0 w w' : World} {g : Gh} {H : Hp} {P : Program}

theorem wpIn_monoQ {F : Fence} {n : Nat} {o : Oper} {a : Act} {w : World} {K K' : Act → World → Prop} {Q Q' : Exit → Act → World → Prop} (hk : ∀ a w, K a w → K' a w) (hq : ∀ e a w, e ≠ .normal → Q e a w → Q' e a w)
    (hh : o.wpIn F n P a w K Q) : o.wpIn F n P a w K' Q' := by
  unfold Oper.wpIn at *
  refine ⟨hh.1, ?_⟩
  have hh := hh.2
  have hl : LetsOut Q → LetsOut Q' := fun ⟨a, w, h⟩ => ⟨a, w, hq _ _ _ (by simp) h⟩
  generalize (o.semAt F.round a.eval).run P w = r at *
  cases r with
  | ok x w' =>
    cases x <;> simp only [Oper.uponIn] at hh ⊢ <;>
      first
        | exact hk _ _ hh
        | exact ⟨hh.1, CallsIn.mono hh.2 (fun e w'' he => by cases e <;> first | exact hk _ _ he | exact hq _ _ _ (by simp) he | exact hl he)⟩
        | exact ⟨hh.1, RowsIn.mono hh.2 (fun _ _ he => hk _ _ he)⟩
        | exact ⟨hh.1, RoundIn.mono hh.2 (fun e w'' he => by cases e <;> first | exact hk _ _ he | exact hq _ _ _ (by simp) he | exact hl he)⟩
  | halt x w' => cases x <;> simp only [Oper.uponIn] at hh ⊢ <;> first | exact hq _ _ _ (by simp) hh | exact hh

section last
variable {pre : Array Oper} {last : Oper} {n : Nat} {Q : Exit → Act → World → Prop} {r : Option Nat}

/-- the last operation stands behind all others, and none of these leans on it -/
def reachL (pre : Array Oper) : Nat → Nat → Nat → Bool
  | 0, j, i => j == i
  | n + 1, j, i => j == i || (match pre[j]? with | some o => o.after.any (fun e => Region.binds .any e && reachL pre n e.on i) | none => false)
def lastOk (pre : Array Oper) (last : Oper) : Bool :=
  last.guard.isNone && last.after.all (fun e => !Region.binds .any e || decide (e.on < pre.size)) && (List.range pre.size).all fun i => last.after.any (fun e => Region.binds .any e && reachL pre 14 e.on i) &&
    (match pre[i]? with | some o => o.after.all (fun e => !Region.binds .any e || decide (e.on < i)) && (match o.guard with | some (j, _) => decide (j < pre.size) | none => true) | none => false)

def lastQ (P : Program) (r : Option Nat) (last : Oper) (Q : Exit → Act → World → Prop) : Exit → Act → World → Prop
  | .normal, a, w => last.wpIn (FR r) 0 P a w (Q .normal) Q
  | e, a, w => Q e a w

theorem getD_push (l : Array Bool) (j : Nat) : (l.push false).getD j false = l.getD j false := by
  rw [Array.getD_eq_getD_getElem?, Array.getD_eq_getD_getElem?, Array.getElem?_push]
  split
  · rename_i h
    rw [Array.getElem?_eq_none (by omega)]; rfl
  · rfl

theorem ready_push {l : Array Bool} (hsz : l.size = pre.size) {i : Nat} (hi : i < pre.size) : i ∈ Region.ready .any (pre.push last) (l.push false) ↔ i ∈ Region.ready .any pre l := by
  rw [mem_ready, mem_ready]
  have h1 : (pre.push last)[i]? = pre[i]? := by rw [Array.getElem?_push, if_neg (by omega)]
  have h2 : (l.push false).getD i true = l.getD i true := by
    rw [Array.getD_eq_getD_getElem?, Array.getD_eq_getD_getElem?, Array.getElem?_push, if_neg (by omega)]
  rw [h1, h2]
  simp only [getD_push]

/-- what has been done has all done that stands before it -/
def ShutL (pre : Array Oper) (l : Array Bool) : Prop := ∀ (k : Nat) (o : Oper), pre[k]? = some o → l.getD k false = true → ∀ e ∈ o.after, Region.binds .any e = true → l.getD e.on false = true

theorem ShutL.set {l : Array Bool} {i : Nat} (hsz : l.size = pre.size) (h : ShutL pre l) (hi : i ∈ Region.ready .any pre l) : ShutL pre (l.setIfInBounds i true) := by
  rw [mem_ready] at hi
  obtain ⟨_, oi, h2, h3⟩ := hi
  have mono : ∀ j, l.getD j false = true → (l.setIfInBounds i true).getD j false = true := by
    intro j hj
    rw [Array.getD_eq_getD_getElem?] at hj ⊢
    rw [Array.getElem?_setIfInBounds]
    split
    · split
      · rfl
      · rename_i h1 h2; rw [Array.getElem?_eq_none (by omega)] at hj; exact hj
    · exact hj
  intro k o ho hk e he hb
  by_cases hki : k = i
  · subst hki
    rw [h2] at ho
    cases ho
    exact mono _ (h3 e he hb)
  · refine mono _ (h k o ho ?_ e he hb)
    rw [Array.getD_eq_getD_getElem?, Array.getElem?_setIfInBounds, if_neg (Ne.symm hki), ← Array.getD_eq_getD_getElem?] at hk
    exact hk

theorem reachL_shut {l : Array Bool} (hcl : ShutL pre l) : ∀ (n j i : Nat), reachL pre n j i = true → l.getD j false = true → l.getD i false = true := by
  intro n
  induction n with
  | zero => intro j i h hj; rw [← beq_iff_eq.1 h]; exact hj
  | succ n ih =>
    intro j i h hj
    unfold reachL at h
    rw [Bool.or_eq_true] at h
    rcases h with h | h
    · rw [← beq_iff_eq.1 h]; exact hj
    · split at h
      · rename_i o ho
        rw [Array.any_eq_true'] at h
        obtain ⟨e, he, h3⟩ := h
        rw [Bool.and_eq_true] at h3
        exact ih _ _ h3.2 (hcl _ _ ho hj e he h3.1)
      · cases h

theorem any_last (hok : lastOk pre last = true) : ∀ (fuel : Nat) (l : Array Bool) (a : Act) (w : World), l.size = pre.size → ShutL pre l → wpAnyIn (FR r) 0 P .any pre (lastQ P r last Q) fuel l a w →
    wpAnyIn (FR r) 0 P .any (pre.push last) Q (fuel + 1) (l.push false) a w := by
  unfold lastOk at hok
  simp only [Bool.and_eq_true, List.all_eq_true, List.mem_range] at hok
  obtain ⟨⟨hg, haft⟩, hall⟩ := hok
  have hg : last.guard = none := by simpa using hg
  have hlast : (pre.push last)[pre.size]? = some last := by simp
  have hedge : ∀ i, i < pre.size → ∃ e ∈ last.after, Region.binds .any e = true ∧ reachL pre 14 e.on i = true := fun i hi => by
    have := (hall i hi).1
    rw [Array.any_eq_true'] at this
    obtain ⟨e, he, h⟩ := this
    rw [Bool.and_eq_true] at h
    exact ⟨e, he, h.1, h.2⟩
  -- with all others done the last one alone is left
  have fin : ∀ (fuel : Nat) (l : Array Bool) (a : Act) (w : World), l.size = pre.size → Region.ready .any pre l = [] → last.wpIn (FR r) 0 P a w (Q .normal) Q →
      wpAnyIn (FR r) 0 P .any (pre.push last) Q (fuel + 1) (l.push false) a w := by
    intro fuel l a w hsz hr hq
    have hdone : ∀ i, i < pre.size → l.getD i false = true := by
      intro i
      induction i using Nat.strongRecOn with
      | _ i ih =>
        intro hi
        cases hl : l.getD i false with
        | true => rfl
        | false =>
          exfalso
          have ho : pre[i]? = some pre[i] := Array.getElem?_eq_getElem hi
          have : i ∈ Region.ready .any pre l := by
            rw [mem_ready]
            refine ⟨by rw [Array.getD_eq_getD_getElem?, Array.getElem?_eq_getElem (by omega)] at hl ⊢; exact hl, pre[i], ho, fun e he hb => ?_⟩
            have h1 := (hall i hi).2
            rw [ho] at h1
            simp only [Bool.and_eq_true] at h1
            have := Array.all_eq_true_iff_forall_mem.1 h1.1 e he
            have hlt : e.on < i := by simpa [hb] using this
            exact ih e.on hlt (by omega)
          rw [hr] at this
          cases this
    have hrm : ∀ i, i ∈ Region.ready .any (pre.push last) (l.push false) → i = pre.size := by
      intro i hi
      have hi' := hi
      rw [mem_ready] at hi
      obtain ⟨h1, o, h2, h3⟩ := hi
      have hlt : i < (pre.push last).size := (Array.getElem?_eq_some_iff.1 h2).1
      simp at hlt
      rcases Nat.lt_or_ge i pre.size with h | h
      · rw [ready_push hsz h, hr] at hi'
        cases hi'
      · omega
    have hrdy : pre.size ∈ Region.ready .any (pre.push last) (l.push false) := by
      rw [mem_ready]
      refine ⟨by rw [Array.getD_eq_getD_getElem?, ← hsz]; simp, last, hlast, fun e he hb => ?_⟩
      rw [getD_push]
      have := Array.all_eq_true_iff_forall_mem.1 haft e he
      exact hdone _ (by simpa [hb] using this)
    refine ⟨fun h0 => (by rw [h0] at hrdy; cases hrdy), fun i hi => ?_⟩
    obtain rfl := hrm i hi
    unfold wpOpIn
    rw [hlast]
    simp only
    rw [if_pos (by unfold Region.wanted; rw [hg])]
    refine wpIn_monoQ (fun a w hq => ?_) (fun _ _ _ _ h => h) hq
    refine wpAnyIn_done ?_ hq _
    rw [List.eq_nil_iff_forall_not_mem]
    intro j hj
    rw [mem_ready] at hj
    obtain ⟨h1, o, h2, h3⟩ := hj
    have hlt : j < (pre.push last).size := (Array.getElem?_eq_some_iff.1 h2).1
    simp at hlt
    rw [Array.getD_eq_getD_getElem?, Array.getElem?_setIfInBounds] at h1
    by_cases hjm : pre.size = j
    · subst hjm
      rw [if_pos rfl, if_pos (by simp; omega)] at h1
      cases h1
    · rw [if_neg hjm, ← Array.getD_eq_getD_getElem?] at h1
      have h4 := hdone j (by omega)
      rw [← getD_push, Array.getD_eq_getD_getElem?, Array.getElem?_eq_getElem (by simp; omega), Option.getD_some] at h4
      rw [Array.getD_eq_getD_getElem?, Array.getElem?_eq_getElem (by simp; omega), Option.getD_some] at h1
      rw [h1] at h4
      cases h4
  have step : ∀ (fuel : Nat) (l : Array Bool) (a : Act) (w : World) (i : Nat), i < pre.size → l.size = pre.size →
      (∀ a w, wpAnyIn (FR r) 0 P .any pre (lastQ P r last Q) fuel (l.setIfInBounds i true) a w → wpAnyIn (FR r) 0 P .any (pre.push last) Q (fuel + 1) ((l.push false).setIfInBounds i true) a w) →
      wpOpIn (FR r) 0 P pre (lastQ P r last Q) i (wpAnyIn (FR r) 0 P .any pre (lastQ P r last Q) fuel (l.setIfInBounds i true)) a w →
      wpOpIn (FR r) 0 P (pre.push last) Q i (wpAnyIn (FR r) 0 P .any (pre.push last) Q (fuel + 1) ((l.push false).setIfInBounds i true)) a w := by
    intro fuel l a w i hi hsz ih h
    have ho : pre[i]? = some pre[i] := Array.getElem?_eq_getElem hi
    have ho' : (pre.push last)[i]? = some pre[i] := by rw [Array.getElem?_push, if_neg (by omega)]; exact ho
    unfold wpOpIn at h ⊢
    rw [ho] at h
    rw [ho']
    simp only at h ⊢
    have hw : Region.wanted pre[i] (yielded (pre.push last) a.tmps) = Region.wanted pre[i] (yielded pre a.tmps) := by
      unfold Region.wanted
      have h1 := (hall i hi).2
      rw [ho] at h1
      simp only [Bool.and_eq_true] at h1
      cases hgd : pre[i].guard with
      | none => rfl
      | some p =>
        obtain ⟨j, want⟩ := p
        have h2 := h1.2
        rw [hgd] at h2
        have hj : j < pre.size := by simpa using h2
        have hy : yielded (pre.push last) a.tmps j = yielded pre a.tmps j := by
          unfold yielded
          rw [Array.getElem?_push, if_neg (by omega)]
        simp only [hy]
    rw [hw]
    split at h
    · rename_i hc
      rw [if_pos hc]
      exact wpIn_monoQ ih (fun e a w hne hq => by cases e <;> first | exact absurd rfl hne | exact hq) h
    · rename_i hc
      rw [if_neg hc]
      exact ⟨h.1, ih _ _ h.2⟩
  intro fuel
  induction fuel with
  | zero => exact fun l a w hsz _ h => fin 0 l a w hsz h.1 h.2
  | succ fuel ih =>
    intro l a w hsz hcl h
    by_cases hr : Region.ready .any pre l = []
    · exact fin _ l a w hsz hr (h.1 hr)
    · refine ⟨fun h0 => ?_, fun i hi => ?_⟩
      · exfalso
        apply hr
        rw [List.eq_nil_iff_forall_not_mem]
        intro i hi
        have hlt : i < pre.size := by
          have := hi
          rw [mem_ready] at this
          obtain ⟨_, o, h2, _⟩ := this
          exact (Array.getElem?_eq_some_iff.1 h2).1
        rw [← ready_push (last := last) hsz hlt, h0] at hi
        cases hi
      · have hlt : i < pre.size := by
          have hi' := hi
          rw [mem_ready] at hi'
          obtain ⟨h1, o, h2, h3⟩ := hi'
          have hle : i < (pre.push last).size := (Array.getElem?_eq_some_iff.1 h2).1
          simp at hle
          rcases Nat.lt_or_ge i pre.size with h | h
          · exact h
          · exfalso
            have hie : i = pre.size := by omega
            subst hie
            rw [hlast] at h2
            cases h2
            apply hr
            rw [List.eq_nil_iff_forall_not_mem]
            intro j hj
            rw [mem_ready] at hj
            obtain ⟨k1, o2, k2, _⟩ := hj
            have hjl : j < pre.size := (Array.getElem?_eq_some_iff.1 k2).1
            obtain ⟨e, he, hb, hj2⟩ := hedge j hjl
            have h5 := h3 e he hb
            rw [getD_push] at h5
            have : l.getD j false = true := reachL_shut hcl 14 _ _ hj2 h5
            rw [Array.getD_eq_getD_getElem?, Array.getElem?_eq_getElem (by omega), Option.getD_some] at this
            rw [Array.getD_eq_getD_getElem?, Array.getElem?_eq_getElem (by omega), Option.getD_some] at k1
            rw [k1] at this
            cases this
        refine step fuel l a w i hlt hsz (fun a w hx => ?_) (h.2 i ((ready_push hsz hlt).1 hi))
        have := ih (l.setIfInBounds i true) a w (by simpa using hsz) (hcl.set hsz ((ready_push hsz hlt).1 hi)) hx
        have e : (l.setIfInBounds i true).push false = (l.push false).setIfInBounds i true := by
          apply Array.ext_getElem?
          intro j
          rw [Array.getElem?_push, Array.getElem?_setIfInBounds, Array.getElem?_setIfInBounds, Array.getElem?_push, Array.size_setIfInBounds, Array.size_push]
          by_cases hj : j = l.size
          · subst hj
            rw [if_pos rfl, if_neg (by omega), if_pos rfl]
          · rw [if_neg hj, if_neg hj]
            by_cases hij : i = j
            · subst hij
              rw [if_pos rfl, if_pos rfl, if_pos (by omega), if_pos (by omega)]
            · rw [if_neg hij, if_neg hij]
        rwa [e] at this

end last

/-- a region that draws its order but for the last operation -/
theorem Awp.drawnLast {n : Nat} {rd : Option Nat} {T : Env} {Q : Exit → Env → Hp → Prop} {id : Nat} {pre : Array Oper} {last : Oper} (hm : P.follows .mixedOrders = true) (mu : Nat → Bool) (W : Draw) (bs : List Nat) (hok : drawOk mu W pre bs = true) (hl : lastOk pre last = true)
    (h : wpO P mu n (some W) [] pre.toList T H (fun T' H' => wpO P mu n none (pre.toList.map (·.dst)) [last] T' H' (Q .normal))) : Awp P n rd (.region id (pre.push last) true) T H Q := by
  intro base w0 g w a r S hT hr
  refine wpIn_region_any hm ?_
  have hg : last.guard = none := by
    unfold lastOk at hl
    simp only [Bool.and_eq_true] at hl
    simpa using hl.1.1
  obtain ⟨Ts, Hs, vs, t0, h0, hK, hst⟩ := trace_of _ _ _ _ h
  have hst' : ∀ (i : Nat) (o : Oper), pre[i]? = some o → StepR P mu n W i (pre.toList.map (·.dst)) o (Ts i) (Hs i) (vs i) (Ts (i + 1)) (Hs (i + 1)) := by
    intro i o ho
    have := hst i o (by simpa using ho)
    simpa using this
  have hrep : ∀ i, (Array.replicate pre.size false).getD i false = false := by
    intro i
    rw [Array.getD_eq_getD_getElem?, Array.getElem?_replicate]; split <;> rfl
  have hT0 : ∀ m, Tc pre T vs (fun i => (Array.replicate pre.size false).getD i false) m = T := by
    intro m
    induction m with
    | zero => rfl
    | succ m ih =>
      show (if (Array.replicate pre.size false).getD m false = true then _ else _) = T
      rw [if_neg (by rw [hrep]; simp), ih]
  have hH0 : ∀ m, Hc H Hs W.ev (fun i => (Array.replicate pre.size false).getD i false) m = H := by
    intro m
    induction m with
    | zero => rfl
    | succ m ih =>
      show (if ((Array.replicate pre.size false).getD m false && W.ev m) = true then _ else _) = H
      rw [if_neg (by rw [hrep]; simp), ih]
  rw [show (Array.replicate (pre.push last).size false) = (Array.replicate pre.size false).push false by
    rw [Array.size_push, Array.replicate_succ], Array.size_push]
  refine any_last hl _ _ _ _ (by simp) (fun k o _ hk => by rw [hrep] at hk; cases hk) ?_
  refine any_sound (base := base) (w0 := w0) (n := n) (K := fun T' H' => wpO P mu n none (pre.toList.map (·.dst)) [last] T' H' (Q .normal)) (g0 := g) (ds := a.defers) (drawOk_spec hok) t0 h0 hst' (by simpa using hK) ?_ pre.size _ g _ a (by simp) (fun i j _ _ hl _ => by rw [hrep] at hl; cases hl) (fun S hS hk => ?_) (Gh.le.refl g)
    (by rw [hH0]; exact S.drew) (by rw [hT0]; exact hT) rfl
  · intro T' H' g' w' a' hk hg2 S' hT' hd
    obtain ⟨hdst, b, hb, h1, h2⟩ := hk
    unfold guardA at hb
    rw [hg] at hb
    cases hb
    have hput : ∀ z, (a'.put last.dst z).defers = a'.defers := by intro z; cases last.dst <;> rfl
    refine (h1 rfl).ok base w0 g' w' a' r S' (fun x _ => evA_rel hT' x) _ _ (fun v z H2 g2 w2 hk2 hg3 S2 hR => ?_)
    exact ⟨_, H2, g2, [], hk2, hg2.trans hg3, S2, (hT'.mono hg3).put hdst hR, by rw [hput]; exact hd, Marks.nil _ _⟩
  · exact nodup_le _ S hS fun k hkm => (hk k hkm).1

end Go.Proofs.Ytdmgljlabigljaa.Ab

namespace Go.Proofs.Ytdmgljlabigljaa.Ab
open Go Go.RowKit
variable {base : Nat} {w0 w w' : World} {g g' : Gh} {H H0 : Hp}

/-- the same value, where the row b is told as what it holds -/
inductive Fz (b : Nat) (es : List (List AV)) : AV → AV → Prop
  | same (a : AV) : Fz b es a a
  | here {off len : Nat} (h : off + len ≤ es.length) : Fz b es (.msl b off len) (.rsl ((es.drop off).take len) false)
  | rptr {cs cs' : List AV} {off : Nat} (hl : cs.length = cs'.length) (h : ∀ (i : Nat) (c c' : AV), cs[i]? = some c → cs'[i]? = some c' → Fz b es c c') : Fz b es (.rptr cs off) (.rptr cs' off)
  | agg {cs cs' : List AV} (hl : cs.length = cs'.length) (h : ∀ (i : Nat) (c c' : AV), cs[i]? = some c → cs'[i]? = some c' → Fz b es c c') : Fz b es (.agg cs) (.agg cs')
  | tup {cs cs' : List AV} (hl : cs.length = cs'.length) (h : ∀ (i : Nat) (c c' : AV), cs[i]? = some c → cs'[i]? = some c' → Fz b es c c') : Fz b es (.tup cs) (.tup cs')

theorem twin {α : Type} {l l' : List α} (hl : l.length = l'.length) {i : Nat} {c' : α} (h : l'[i]? = some c') : ∃ c, l[i]? = some c :=
  ⟨_, List.getElem?_eq_getElem (by rw [hl]; exact (List.getElem?_eq_some_iff.1 h).1)⟩

theorem Fz.rel {b y : Nat} {es : List (List AV)} (h1 : g.ph b = some y) (h2 : g.le g') (h4 : ∀ off len v, off + len ≤ es.length → R g (.msl b off len) v → R g' (.rsl ((es.drop off).take len) false) v)
    {a a' : AV} (h : Fz b es a a') : ∀ v, R g' a v → R g' a' v := by
  induction h with
  | same a => exact fun v h => h
  | here hfit =>
    intro v hv
    refine h4 _ _ v hfit ?_
    cases hv with
    | msl hx hl' hc' hm =>
      have e1 := h2.ks b y h1
      have e2 := h2.cp b y h1
      have e3 := h2.ph b y h1
      rw [e3] at hx
      cases hx
      rw [e1]
      rw [e2] at hc'
      exact .msl h1 hl' hc' hm
  | rptr hl h ih =>
    intro v hv
    cases hv with
    | rptr vs hf hr =>
      refine .rptr vs (fun i hi => hf i (by omega)) fun i c' hc' => ?_
      obtain ⟨c, hc⟩ := twin hl hc'
      exact ih i c c' hc hc' _ (hr i c hc)
  | agg hl h ih =>
    intro v hv
    cases hv with
    | agg hs hr =>
      refine .agg (by omega) fun i c' v hc' hv => ?_
      obtain ⟨c, hc⟩ := twin hl hc'
      exact ih i c c' hc hc' _ (hr i c v hc hv)
  | tup hl h ih =>
    intro v hv
    cases hv with
    | tup hs hr =>
      refine .tup (by omega) fun i c' v hc' hv => ?_
      obtain ⟨c, hc⟩ := twin hl hc'
      exact ih i c c' hc hc' _ (hr i c v hc hv)

/-- what is handed back has the row -/
theorem Vs.freezeV {a a' : AV} {b : Nat} {es : List (List AV)} {t : TypeId} (hb : H[b]? = some (.cells es t)) (hF : Fz b es a a') : Vs H0 a H a' (H.set b .dead) := by
  intro base w0 g0 g w x _ _ hg S hR
  obtain ⟨y, o, h1, _, _⟩ := S.obj b _ hb (by simp)
  obtain ⟨g', h2, h3, h4⟩ := freeze_R S hb h1
  exact ⟨g', hg.trans h2, h3, hF.rel h1 h2 h4 _ (hR.mono h2)⟩

/-- a row of rows has the row -/
theorem Vs.freezeRow {a : AV} {s b p len : Nat} {es ess : List (List AV)} {t t' : TypeId} (hsb : s ≠ b) (hs : H[s]? = some (.cells ess t)) (hp : ess[p]? = some [.msl b 0 len]) (hb : H[b]? = some (.cells es t')) (hfit : len ≤ es.length) :
    Vs H0 a H a ((H.set b .dead).set s (.cells (ess.set p [.rsl (es.take len) false]) t)) := by
  intro base w0 g0 g w x _ _ hg S hR
  obtain ⟨y, o, h1, _, _⟩ := S.obj b _ hb (by simp)
  obtain ⟨g', h2, h3, h4⟩ := freeze_R S hb h1
  refine ⟨g', hg.trans h2, ?_, hR.mono h2⟩
  refine h3.retell (s := s) (ob := .cells ess t) ?_ (by simp) ?_
  · rw [List.getElem?_set_ne (fun e => hsb e.symm)]; exact hs
  · intro k cp o h
    cases h with
    | cells hsz hle hk hr =>
      refine .cells hsz (by simpa using hle) (fun i e he => ?_) (fun i e j c he hc => ?_)
      · rw [List.getElem?_set] at he
        split at he
        · rename_i hip
          split at he
          · cases he; subst hip; have := hk _ _ hp; simpa using this
          · cases he
        · exact hk i e he
      · rw [List.getElem?_set] at he
        split at he
        · rename_i hip
          subst hip
          split at he
          · cases he
            have hj : j = 0 := by have := (List.getElem?_eq_some_iff.1 hc).1; simp at this; omega
            subst hj
            cases hc
            obtain ⟨v, v1, v2⟩ := hr _ _ 0 _ hp rfl
            refine ⟨v, v1, ?_⟩
            have := (Fz.here (b := b) (es := es) (off := 0) (len := len) (by omega)).rel h1 h2 h4 v v2
            simpa using this
          · cases he
        · exact hr i e j c he hc

end Go.Proofs.Ytdmgljlabigljaa.Ab
