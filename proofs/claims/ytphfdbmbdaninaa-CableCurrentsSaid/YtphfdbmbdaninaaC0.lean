/- Small steps for walks: one operation, a test, a call, the end of a region; what a program's types come to. -/
import Derived.Test.YtphfdbmbdaninaaB6
namespace Go.Proofs.Ytphfdbmbdaninaa.Ab
open Go Go.RowKit

section steps
variable {P : Program} {mu : Nat → Bool} {n : Nat} {rd : Option Nat} {d : Option Draw} {done : List (Option Tmp)} {rest : List Oper} {T : Env} {H H' : Hp} {v : AV} {K : Env → Hp → Prop} {Q : Exit → Env → Hp → Prop}
variable {op : Op} {ty : TypeId} {pos : String} {aft : Array Edge} {gd : Option (Nat × Bool)} {s : Tmp}

theorem upd_app (T : Env) (d : Nat) (v : AV) (s : Nat) : upd T d v s = if s = d then v else T s := rfl
theorem env0_app (args : List AV) (t : Nat) : env0 args t = args.getD t (.val undef) := rfl

theorem reg {id : Nat} {ops : Array Oper} (mu : Nat → Bool) (h : wpO P mu n none [] ops.toList T H (Q .normal)) : Awp P n rd (.region id ops false) T H Q :=
  Awp.region (mu := mu) fun K hK => by
    have mono : ∀ (l : List Oper) (done : List (Option Tmp)) (T : Env) (H : Hp), wpO P mu n none done l T H (Q .normal) → wpO P mu n none done l T H K := by
      intro l
      induction l with
      | nil => intro done T H h; exact hK T H h
      | cons o l ih =>
        rintro done T H ⟨h1, b, h2, h3, h4⟩
        exact ⟨h1, b, h2, fun hb => (h3 hb).mono fun v H' h => ih _ _ _ h, fun hb => ih _ _ _ (h4 hb)⟩
    exact mono _ _ _ _ h

theorem stp (hc : callOf ⟨some s, op, ty, pos, aft, gd⟩ = none) (hd : dstOk n (some s) = true) (hg : guardA done gd T = some true)
    (h : stepA P mu ⟨some s, op, ty, pos, aft, gd⟩ T H = some (v, H')) (ho : okD P mu d done.length ⟨some s, op, ty, pos, aft, gd⟩ T H v H') (k : wpO P mu n d (done ++ [some s]) rest (upd T s v) H' K) : wpO P mu n d done (⟨some s, op, ty, pos, aft, gd⟩ :: rest) T H K := by
  exact ⟨hd, true, hg, fun _ => Perf.of (by unfold PerfTo; rw [hc]; exact h) ho k, fun h => by cases h⟩

/-- a store -/
theorem stpN (hc : callOf ⟨none, op, ty, pos, aft, gd⟩ = none) (hg : guardA done gd T = some true)
    (h : stepA P mu ⟨none, op, ty, pos, aft, gd⟩ T H = some (v, H')) (ho : okD P mu d done.length ⟨none, op, ty, pos, aft, gd⟩ T H v H') (k : wpO P mu n d (done ++ [none]) rest T H' K) : wpO P mu n d done (⟨none, op, ty, pos, aft, gd⟩ :: rest) T H K := by
  exact ⟨rfl, true, hg, fun _ => Perf.of (by unfold PerfTo; rw [hc]; exact h) ho k, fun h => by cases h⟩

/-- a comparison: both ways -/
theorem spD {p : Prop} [Decidable p] {ops : List Oper} (k1 : p → wpO P mu n d done ops (upd T s (.val (.bool true))) H K)
    (k2 : ¬ p → wpO P mu n d done ops (upd T s (.val (.bool false))) H K) : wpO P mu n d done ops (upd T s (.val (.bool (decide p)))) H K := by
  by_cases hp : p
  · rw [decide_eq_true hp]; exact k1 hp
  · rw [decide_eq_false hp]; exact k2 hp

/-- '==' of ints: both ways -/
theorem spE {x y : Int} {ops : List Oper} (k1 : x = y → wpO P mu n d done ops (upd T s (.val (.bool true))) H K)
    (k2 : x ≠ y → wpO P mu n d done ops (upd T s (.val (.bool false))) H K) : wpO P mu n d done ops (upd T s (.val (.bool (x == y)))) H K := by
  by_cases hp : x = y
  · rw [beq_iff_eq.2 hp]; exact k1 hp
  · rw [beq_eq_false_iff_ne.2 hp]; exact k2 hp

/-- '!=' of ints: both ways -/
theorem spF {x y : Int} {ops : List Oper} (k1 : x = y → wpO P mu n d done ops (upd T s (.val (.bool false))) H K)
    (k2 : x ≠ y → wpO P mu n d done ops (upd T s (.val (.bool true))) H K) : wpO P mu n d done ops (upd T s (.val (.bool (x != y)))) H K := by
  by_cases hp : x = y
  · rw [bne_eq_false_iff_eq.2 hp]; exact k1 hp
  · rw [bne_iff_ne.2 hp]; exact k2 hp

/-- a Bool: both ways -/
theorem spB {t : Bool} {ops : List Oper} (k1 : t = true → wpO P mu n d done ops (upd T s (.val (.bool true))) H K)
    (k2 : t = false → wpO P mu n d done ops (upd T s (.val (.bool false))) H K) : wpO P mu n d done ops (upd T s (.val (.bool t))) H K := by
  cases t
  · exact k2 rfl
  · exact k1 rfl

/-- a region that draws its order -/
theorem drw {id : Nat} {ops : Array Oper} (hm : P.follows .mixedOrders = true) (mu : Nat → Bool) (W : Draw) (hok : drawOk mu W ops (Region.before ops).toList = true)
    (h : wpO P mu n (some W) [] ops.toList T H (Q .normal)) : Awp P n rd (.region id ops true) T H Q := Awp.drawn hm mu W _ hok h

/-- which operations turn the heap, calls apart -/
def evOf (mu : Nat → Bool) (ops : Array Oper) (i : Nat) : Bool :=
  match ops[i]? with
  | some o => (match o.op with
    | .alloc _ | .box .. | .buildSlice .. => isMu mu o.dst
    | .store .. | .makeSlice .. | .makeMap .. | .mapUpdate .. => true
    | .call c => (match c.callee with | .builtin .len | .builtin .cap | .builtin .min | .builtin .max => false | .builtin _ => true | _ => false)
    | _ => false)
  | none => false

theorem drwE {id : Nat} {ops : Array Oper} (hm : P.follows .mixedOrders = true) (mu : Nat → Bool) (hok : drawOk mu (.of (evOf mu ops)) ops (Region.before ops).toList = true)
    (h : wpO P mu n (some (.of (evOf mu ops))) [] ops.toList T H (Q .normal)) : Awp P n rd (.region id ops true) T H Q := Awp.drawn hm mu _ _ hok h

theorem okT {P : Program} {mu : Nat → Bool} {i : Nat} {o : Oper} {T : Env} {H H' : Hp} {v : AV} : okD P mu none i o T H v H' := trivial
theorem okN {P : Program} {mu : Nat → Bool} {i : Nat} {o : Oper} {T : Env} {H : Hp} {v : AV} {ev : Nat → Bool} : okD P mu (some (.of ev)) i o T H v H := ⟨fun _ => rfl, fun _ _ => rfl, fun h => Bool.noConfusion h⟩
theorem okE {P : Program} {mu : Nat → Bool} {i : Nat} {o : Oper} {T : Env} {H H' : Hp} {v : AV} {ev : Nat → Bool} (h : ev i = true) : okD P mu (some (.of ev)) i o T H v H' :=
  ⟨fun k => (by have k : ev i = false := k; rw [h] at k; cases k), fun _ k => Bool.noConfusion (show false = true from k), fun k => Bool.noConfusion (show false = true from k)⟩

theorem get_new (L : Hp) (x : AObj) : (L ++ [x])[L.length]? = some x := by simp
theorem get_new2 (L : Hp) (x y : AObj) : (L ++ [x] ++ [y])[L.length]? = some x := by simp
theorem get_new3 (L : Hp) (x y z : AObj) : (L ++ [x] ++ [y] ++ [z])[L.length]? = some x := by simp
theorem get_new4 (L : Hp) (x y z u : AObj) : (L ++ [x] ++ [y] ++ [z] ++ [u])[L.length]? = some x := by simp
theorem set_new (L : Hp) (x c : AObj) : (L ++ [x]).set L.length c = L ++ [c] := by simp
theorem set_new2 (L : Hp) (x y c : AObj) : (L ++ [x] ++ [y]).set L.length c = L ++ [c] ++ [y] := by simp
theorem set_new3 (L : Hp) (x y z c : AObj) : (L ++ [x] ++ [y] ++ [z]).set L.length c = L ++ [c] ++ [y] ++ [z] := by simp
theorem set_new4 (L : Hp) (x y z u c : AObj) : (L ++ [x] ++ [y] ++ [z] ++ [u]).set L.length c = L ++ [c] ++ [y] ++ [z] ++ [u] := by simp

theorem get_mid (L Y : Hp) (x : AObj) : (L ++ [x] ++ Y)[L.length]? = some x := by simp
theorem get_mid2 (L Y Z : Hp) (x : AObj) : (L ++ [x] ++ Y ++ Z)[L.length]? = some x := by simp
theorem get_mid3 (L Y Z U : Hp) (x : AObj) : (L ++ [x] ++ Y ++ Z ++ U)[L.length]? = some x := by simp
theorem set_mid (L Y : Hp) (x c : AObj) : (L ++ [x] ++ Y).set L.length c = L ++ [c] ++ Y := by simp
theorem set_mid2 (L Y Z : Hp) (x c : AObj) : (L ++ [x] ++ Y ++ Z).set L.length c = L ++ [c] ++ Y ++ Z := by simp
theorem set_mid3 (L Y Z U : Hp) (x c : AObj) : (L ++ [x] ++ Y ++ Z ++ U).set L.length c = L ++ [c] ++ Y ++ Z ++ U := by simp

/-- an old block, in a heap that has grown -/
theorem held {H : Hp} {s : Nat} {v : AObj} (h : H[s]? = some v) :
    H[s]? = some v ∧ (∀ X, (H ++ X)[s]? = some v) ∧ (∀ X Y, (H ++ X ++ Y)[s]? = some v) ∧ (∀ X Y Z, (H ++ X ++ Y ++ Z)[s]? = some v) ∧ (∀ X Y Z U, (H ++ X ++ Y ++ Z ++ U)[s]? = some v) ∧ (∀ X Y Z U V, (H ++ X ++ Y ++ Z ++ U ++ V)[s]? = some v) := by
  have hlt := (List.getElem?_eq_some_iff.1 h).1
  have h1 : ∀ X, (H ++ X)[s]? = some v := fun X => by rw [List.getElem?_append_left hlt]; exact h
  refine ⟨h, h1, fun X Y => ?_, fun X Y Z => ?_, fun X Y Z U => ?_, fun X Y Z U V => ?_⟩ <;> simp only [List.append_assoc] <;> exact h1 _

theorem stp0 (hd : dstOk n (some s) = true) (hc : callOf ⟨some s, op, ty, pos, aft, none⟩ = none)
    (h : stepA P mu ⟨some s, op, ty, pos, aft, none⟩ T H = some (v, H')) (ho : okD P mu d done.length ⟨some s, op, ty, pos, aft, none⟩ T H v H') (k : wpO P mu n d (done ++ [some s]) rest (upd T s v) H' K) : wpO P mu n d done (⟨some s, op, ty, pos, aft, none⟩ :: rest) T H K :=
  stp hc hd rfl h ho k
theorem stpN0 (hc : callOf ⟨none, op, ty, pos, aft, none⟩ = none)
    (h : stepA P mu ⟨none, op, ty, pos, aft, none⟩ T H = some (v, H')) (ho : okD P mu d done.length ⟨none, op, ty, pos, aft, none⟩ T H v H') (k : wpO P mu n d (done ++ [none]) rest T H' K) : wpO P mu n d done (⟨none, op, ty, pos, aft, none⟩ :: rest) T H K :=
  stpN hc rfl h ho k

/-- a guard that lets the operation be -/
theorem gT {dst : Option Tmp} {p : Nat × Bool} (hg : guardA done (some p) T = some true) (k : wpO P mu n d done (⟨dst, op, ty, pos, aft, none⟩ :: rest) T H K) : wpO P mu n d done (⟨dst, op, ty, pos, aft, some p⟩ :: rest) T H K := by
  obtain ⟨h1, b, h2, h3, h4⟩ := k
  cases h2
  exact ⟨h1, true, hg, fun _ => by have := h3 rfl; exact this, fun h => by cases h⟩

theorem off (hd : dstOk n (some s) = true) (hg : guardA done gd T = some false)
    (k : wpO P mu n d (done ++ [some s]) rest (upd T s (.val undef)) H K) : wpO P mu n d done (⟨some s, op, ty, pos, aft, gd⟩ :: rest) T H K :=
  ⟨hd, false, hg, ⟨fun h => (by cases h), fun _ => k⟩⟩

theorem fin (k : K T H) : wpO P mu n d done [] T H K := k

variable {f : Operand} {args : Array Operand} {aT : Array TypeId}

/-- a call, by a contract of any kind -/
theorem cal {Post : AV → Hp → Prop} (hd : dstOk n (some s) = true) (hg : guardA done gd T = some true) {fv : AV} {as : List AV}
    (hf : evA T f = fv) (ha : args.toList.map (evA T) = as) (h : ACallV P fv as H Post)
    (k : ∀ v H', Post v H' → wpO P mu n none (done ++ [some s]) rest (upd T s v) H' K) : wpO P mu n none done (⟨some s, .call ⟨.value f, args, aT⟩, ty, pos, aft, gd⟩ :: rest) T H K := by
  subst hf; subst ha
  exact ⟨hd, true, hg, fun _ => ACallV.mono h k, fun h => by cases h⟩

/-- a call that comes to one value and one heap -/
def CallsTo (P : Program) (f : FuncId) (args : List AV) (H : Hp) (v : AV) (H' : Hp) : Prop := ACalls P f args H fun v1 H1 => v1 = v ∧ H1 = H'

theorem calTo0 {k' : FuncId} {cap : List AV} (hd : dstOk n (some s) = true) {as : List AV}
    (hf : evA T f = .fn (.func k') cap) (ha : args.toList.map (evA T) ++ cap = as) (h : CallsTo P k' as H v H') (ho : okD P mu d done.length ⟨some s, .call ⟨.value f, args, aT⟩, ty, pos, aft, none⟩ T H v H')
    (k : wpO P mu n d (done ++ [some s]) rest (upd T s v) H' K) : wpO P mu n d done (⟨some s, .call ⟨.value f, args, aT⟩, ty, pos, aft, none⟩ :: rest) T H K := by
  subst ha
  have h' : ACallV P (evA T f) (args.toList.map (evA T)) H (fun v1 H1 => v1 = v ∧ H1 = H') := by rw [hf]; exact h
  exact ⟨hd, true, rfl, fun _ => Perf.of h' ho k, fun h => by cases h⟩

/-- a call of a method value -/
theorem calM {k' : FuncId} {pre : List AV} (hd : dstOk n (some s) = true) {as : List AV}
    (hf : evA T f = .mth k' pre) (ha : pre ++ args.toList.map (evA T) = as) (h : CallsTo P k' as H v H') (ho : okD P mu d done.length ⟨some s, .call ⟨.value f, args, aT⟩, ty, pos, aft, none⟩ T H v H')
    (k : wpO P mu n d (done ++ [some s]) rest (upd T s v) H' K) : wpO P mu n d done (⟨some s, .call ⟨.value f, args, aT⟩, ty, pos, aft, none⟩ :: rest) T H K := by
  subst ha
  have h' : ACallV P (evA T f) (args.toList.map (evA T)) H (fun v1 H1 => v1 = v ∧ H1 = H') := by rw [hf]; exact h
  exact ⟨hd, true, rfl, fun _ => Perf.of h' ho k, fun h => by cases h⟩

/-- a call of a loop's round -/
theorem calY {b : Nat} (hd : dstOk n (some s) = true) {as : List AV} (hf : evA T f = .fn (.yield b) []) (ha : args.toList.map (evA T) = as)
    (h : AYield P b as H fun v1 H1 => v1 = v ∧ H1 = H') (ho : okD P mu d done.length ⟨some s, .call ⟨.value f, args, aT⟩, ty, pos, aft, none⟩ T H v H')
    (k : wpO P mu n d (done ++ [some s]) rest (upd T s v) H' K) : wpO P mu n d done (⟨some s, .call ⟨.value f, args, aT⟩, ty, pos, aft, none⟩ :: rest) T H K := by
  subst ha
  have h' : ACallV P (evA T f) (args.toList.map (evA T)) H (fun v1 H1 => v1 = v ∧ H1 = H') := by rw [hf]; exact h
  exact ⟨hd, true, rfl, fun _ => Perf.of h' ho k, fun h => by cases h⟩

theorem calTo {k' : FuncId} {cap : List AV} (hd : dstOk n (some s) = true) (hg : guardA done gd T = some true) {as : List AV}
    (hf : evA T f = .fn (.func k') cap) (ha : args.toList.map (evA T) ++ cap = as) (h : CallsTo P k' as H v H') (ho : okD P mu d done.length ⟨some s, .call ⟨.value f, args, aT⟩, ty, pos, aft, gd⟩ T H v H')
    (k : wpO P mu n d (done ++ [some s]) rest (upd T s v) H' K) : wpO P mu n d done (⟨some s, .call ⟨.value f, args, aT⟩, ty, pos, aft, gd⟩ :: rest) T H K := by
  subst ha
  have h' : ACallV P (evA T f) (args.toList.map (evA T)) H (fun v1 H1 => v1 = v ∧ H1 = H') := by rw [hf]; exact h
  exact ⟨hd, true, hg, fun _ => Perf.of h' ho k, fun h => by cases h⟩

/-- a call whose Bool is asked: both ways -/
theorem calB {k' : FuncId} {cap : List AV} {t : Bool} (hd : dstOk n (some s) = true) (hg : guardA done gd T = some true) {as : List AV}
    (hf : evA T f = .fn (.func k') cap) (ha : args.toList.map (evA T) ++ cap = as) (h : CallsTo P k' as H (.val (.bool t)) H') (ho : okD P mu d done.length ⟨some s, .call ⟨.value f, args, aT⟩, ty, pos, aft, gd⟩ T H (.val (.bool t)) H')
    (k1 : t = true → wpO P mu n d (done ++ [some s]) rest (upd T s (.val (.bool true))) H' K)
    (k2 : t = false → wpO P mu n d (done ++ [some s]) rest (upd T s (.val (.bool false))) H' K) : wpO P mu n d done (⟨some s, .call ⟨.value f, args, aT⟩, ty, pos, aft, gd⟩ :: rest) T H K := by
  refine calTo hd hg hf ha h ho ?_
  cases t
  · exact k2 rfl
  · exact k1 rfl

theorem condT {c : Operand} {x y : Code} (hc : evA T c = .val (.bool true)) (h : Awp P n rd x T H Q) : Awp P n rd (.cond c x y) T H Q := Awp.cond hc (fun _ => h) fun h => by cases h
theorem condF {c : Operand} {x y : Code} (hc : evA T c = .val (.bool false)) (h : Awp P n rd y T H Q) : Awp P n rd (.cond c x y) T H Q := Awp.cond hc (fun h => by cases h) fun _ => h

theorem thenQ_n {k : Env → Hp → Prop} (h : k T H) : thenQ k Q .normal T H := h
theorem thenQ_r {k : Env → Hp → Prop} (h : Q .ret T H) : thenQ k Q .ret T H := h
theorem thenQ_e {k : Env → Hp → Prop} {id : Nat} (h : Q (.exit id) T H) : thenQ k Q (.exit id) T H := h
theorem blockQ_n {id : Nat} (h : Q .normal T H) : blockQ id Q .normal T H := h
theorem blockQ_r {id : Nat} (h : Q .ret T H) : blockQ id Q .ret T H := h
theorem blockQ_e {id : Nat} (h : Q .normal T H) : blockQ id Q (.exit id) T H := by simp [blockQ, h]
theorem blockQ_o {id id' : Nat} (hn : (id' == id) = false) (h : Q (.exit id') T H) : blockQ id Q (.exit id') T H := by
  have : id' ≠ id := by simpa using hn
  simp [blockQ, h, this]

theorem Bel_val (m : Nat) (v : Value) : Bel m (.val v) := .val v
theorem Bel_tup {m : Nat} {cs : List AV} (h : ∀ c ∈ cs, Bel m c) : Bel m (.tup cs) := .tup h
theorem Bel_agg {m : Nat} {cs : List AV} (h : ∀ c ∈ cs, Bel m c) : Bel m (.agg cs) := .agg h

variable {fn : Func} {H0 X Y Z U : Hp} {e : Exit} {Post : AV → Hp → Prop} {vs : List AV}

/-- a function whose body hands back a value and leaves the heap as it was, but for what nothing leads to -/
theorem bodyQ_same (he : e = .normal ∨ e = .ret) (hr : resL P T (H0 ++ X) fn.results.toList = some vs) (hb : Bel H0.length (oneOf vs)) (hp : Post (oneOf vs) H0) :
    bodyQ P fn H0 Post e T (H0 ++ X) := ⟨he, vs, oneOf vs, H0, hr, Vs.drop hb, hp⟩

theorem bodyQ_eq {H1 : Hp} (he : e = .normal ∨ e = .ret) (hr : resL P T H1 fn.results.toList = some vs) (hp : Post (oneOf vs) H1) :
    bodyQ P fn H0 Post e T H1 := ⟨he, vs, oneOf vs, H1, hr, Vs.refl _ _ _, hp⟩

theorem bodyQ_d0 (he : e = .normal ∨ e = .ret) (hr : resL P T H0 fn.results.toList = some vs) (hv : oneOf vs = v) :
    bodyQ P fn H0 (fun v1 H1 => v1 = v ∧ H1 = H0) e T H0 := bodyQ_eq he hr ⟨hv, rfl⟩
theorem bodyQ_d1 (he : e = .normal ∨ e = .ret) (hr : resL P T (H0 ++ X) fn.results.toList = some vs) (hb : Bel H0.length (oneOf vs)) (hv : oneOf vs = v) :
    bodyQ P fn H0 (fun v1 H1 => v1 = v ∧ H1 = H0) e T (H0 ++ X) := bodyQ_same he hr hb ⟨hv, rfl⟩
theorem bodyQ_d2 (he : e = .normal ∨ e = .ret) (hr : resL P T (H0 ++ X ++ Y) fn.results.toList = some vs) (hb : Bel H0.length (oneOf vs)) (hv : oneOf vs = v) :
    bodyQ P fn H0 (fun v1 H1 => v1 = v ∧ H1 = H0) e T (H0 ++ X ++ Y) := by
  rw [List.append_assoc] at hr ⊢; exact bodyQ_same he hr hb ⟨hv, rfl⟩
theorem bodyQ_d3 (he : e = .normal ∨ e = .ret) (hr : resL P T (H0 ++ X ++ Y ++ Z) fn.results.toList = some vs) (hb : Bel H0.length (oneOf vs)) (hv : oneOf vs = v) :
    bodyQ P fn H0 (fun v1 H1 => v1 = v ∧ H1 = H0) e T (H0 ++ X ++ Y ++ Z) := by
  rw [List.append_assoc, List.append_assoc] at hr ⊢; exact bodyQ_same he hr hb ⟨hv, rfl⟩
theorem bodyQ_d4 (he : e = .normal ∨ e = .ret) (hr : resL P T (H0 ++ X ++ Y ++ Z ++ U) fn.results.toList = some vs) (hb : Bel H0.length (oneOf vs)) (hv : oneOf vs = v) :
    bodyQ P fn H0 (fun v1 H1 => v1 = v ∧ H1 = H0) e T (H0 ++ X ++ Y ++ Z ++ U) := by
  rw [List.append_assoc, List.append_assoc, List.append_assoc] at hr ⊢; exact bodyQ_same he hr hb ⟨hv, rfl⟩

end steps

/-! ### what a program's types come to -/

section types
variable {P : Program} {t e : TypeId}

def infoA (P : Program) (t : TypeId) : Option (Option Value × Nat × Nat) := (P.info? t).map fun i => (i.zero, i.size, i.bytes)

theorem infoA_some {z : Option Value} {k b : Nat} (h : infoA P t = some (z, k, b)) : ∃ i, P.info? t = some i ∧ i.zero = z ∧ i.size = k ∧ i.bytes = b := by
  unfold infoA at h
  simp only [Option.map_eq_some_iff, Prod.mk.injEq] at h
  obtain ⟨i, hi, h1, h2, h3⟩ := h
  exact ⟨i, hi, h1, h2, h3⟩

theorem load_agg {d : TypeDesc} {z : Option Value} {k b : Nat} (hu : P.underlying t = some d) (hd : (match d with | .struct _ | .array _ _ => true | _ => false) = true) (h : infoA P t = some (z, k, b)) (cs : List AV) (off : Nat) :
    loadA P t cs off = if off + k ≤ cs.length then some (.agg ((cs.drop off).take k)) else none := by
  obtain ⟨i, hi, _, rfl, _⟩ := infoA_some h
  unfold loadA
  rw [hu, hi]
  cases d <;> first | rfl | cases hd

theorem load_one {d : TypeDesc} {z : Option Value} {k b : Nat} (hu : P.underlying t = some d) (hd : (match d with | .struct _ | .array _ _ => true | _ => false) = false) (h : infoA P t = some (z, k, b)) (cs : List AV) (off : Nat) :
    loadA P t cs off = cs[off]? := by
  obtain ⟨i, hi, _, rfl, _⟩ := infoA_some h
  unfold loadA
  rw [hu, hi]
  cases d <;> first | rfl | cases hd

theorem size_of {z : Option Value} {k b : Nat} (h : infoA P t = some (z, k, b)) : sizeA P t = some k := by
  obtain ⟨i, hi, _, rfl, _⟩ := infoA_some h
  simp [sizeA, hi]

theorem zero_of {z : Value} {k b : Nat} (h : infoA P t = some (some z, k, b)) : zeroA P t = some (z.cells.toList.map .val) := by
  obtain ⟨i, hi, h1, rfl, _⟩ := infoA_some h
  simp [zeroA, hi, h1]

theorem elem_of {k : Nat} (hu : P.underlying t = some (.slice e)) (h : sizeA P e = some k) : elemA P t = .sl e k := by
  unfold elemA
  rw [hu]
  simp only [h]

theorem elem_arr {k n : Nat} (hu : P.underlying t = some (.array n e)) (h : sizeA P e = some k) (hn : 2 ≤ n) : elemA P t = .ar n e k := by
  unfold elemA
  rw [hu]
  simp only [h, hn, if_true]

theorem field_off {fs : Array Field} {f ft fo k : Nat} (hu : P.underlying t = some (.struct fs)) (hf : (fs[f]?).map (fun x => (x.type, x.offset)) = some (ft, fo)) (h : sizeA P ft = some k) (hk : 0 < k) : fieldOff P t f = some fo := by
  simp only [Option.map_eq_some_iff, Prod.mk.injEq] at hf
  obtain ⟨fl, hf, rfl, rfl⟩ := hf
  obtain ⟨i, hi, rfl⟩ := Option.map_eq_some_iff.1 h
  unfold fieldOff
  rw [hu]
  simp only [hf, hi]
  rw [if_neg (by omega)]

theorem field_to {fs : Array Field} {f ft fo : Nat} (hu : P.underlying t = some (.struct fs)) (hf : (fs[f]?).map (fun x => (x.type, x.offset)) = some (ft, fo)) : fieldTO P t f = some (ft, fo) := by
  simp only [Option.map_eq_some_iff, Prod.mk.injEq] at hf
  obtain ⟨fl, hf, rfl, rfl⟩ := hf
  unfold fieldTO
  rw [hu]
  simp only [hf]

def appendB (e : TypeId) (k b : Nat) (s x : AV) (H : Hp) : Option (AV × Hp) :=
  match srcA k x H with
  | some xs =>
    if xs.length = 0 then (match s with | .val (.slice none 0 0) => some (s, H) | .rsl .. => some (s, H) | .msl .. => some (s, H) | _ => none)
    else match s with
      | .val (.slice none 0 0) => if xs.length * b ≤ 140737488355328 then some (.msl H.length 0 xs.length, H ++ [.cells xs e]) else none
      | .rsl es true => if es.all (fun e => e.length == k) ∧ (es.length + xs.length) * b ≤ 140737488355328 then some (.msl H.length 0 (es.length + xs.length), H ++ [.cells (es ++ xs) e]) else none
      | .msl c 0 len => match H[c]? with
        | some (.cells es e') =>
          if e' = e ∧ len ≤ es.length ∧ 0 < es.length ∧ es.all (fun e => e.length == k) ∧ xs.all (fun e => e.all AV.isCell) ∧ (len + xs.length) * b ≤ 140737488355328 then
            some (.msl H.length 0 (len + xs.length), H.set c .dead ++ [.cells (es.take len ++ xs) e]) else none
        | _ => none
      | _ => none
  | none => none

theorem append_of {z : Value} {k b : Nat} (hu : P.underlying t = some (.slice e)) (h : infoA P e = some (some z, k, b)) (hz : z.cells.size = k) (hk : 0 < k) (hb : 0 < b) (s x : AV) (H : Hp) :
    appendA P t t s x H = appendB e k b s x H := by
  obtain ⟨i, hi, h1, rfl, rfl⟩ := infoA_some h
  unfold appendA appendB
  rw [if_pos rfl, hu]
  simp only [hi, h1]
  rw [if_pos ⟨hz, hk, hb⟩]
  rfl

theorem make_of {z : Value} {k b : Nat} (hu : P.underlying t = some (.slice e)) (h : infoA P e = some (some z, k, b)) (hz : z.cells.size = k) (hk : 0 < k) (n : Int) :
    makeA P t n = if 0 ≤ n ∧ b * n ≤ 281474976710656 ∧ n ≤ 9223372036854775807 then some (List.replicate n.toNat (z.cells.toList.map .val), e) else none := by
  obtain ⟨i, hi, h1, rfl, rfl⟩ := infoA_some h
  unfold makeA
  rw [hu]
  simp only [hi, h1, hz, hk, true_and]

theorem lit_of {z : Value} {k b : Nat} (hu : P.underlying t = some (.slice e)) (h : infoA P e = some (some z, k, b)) (hz : z.cells.size = k) (hk : 0 < k) (len : Nat) (ps : List (Nat × AV)) :
    litA P t len ps = if len * k ≤ 16777216 then (fillE k (List.replicate len (z.cells.toList.map .val)) ps).map fun es => (es, e) else none := by
  obtain ⟨i, hi, h1, rfl, rfl⟩ := infoA_some h
  unfold litA
  rw [hu]
  simp only [hi, h1, hz, hk, true_and]

def sliceB (k : Nat) (x : AV) (lo hi mx : Option AV) : Option AV :=
  match x with
  | .rsl es ex => match bnd 0 lo, bnd es.length hi, bnd es.length mx with
    | some l, some h, some m =>
      if l ≤ h ∧ h ≤ m ∧ m ≤ es.length ∧ (l = h ∨ (es[l]?).map List.length = some k) ∧ (mx.isSome → hi.isSome) then
        some (.rsl ((es.take h).drop l) (if mx.isSome then m == h else ex && h == es.length)) else none
    | _, _, _ => none
  | .msl b off len => match bnd 0 lo, bnd len hi, mx with
    | some l, some h, none => if l ≤ h ∧ h ≤ len then (if l = 0 then some (.msl b off h) else if l = h then some (.rsl [] false) else none) else none
    | _, _, _ => none
  | .val (.slice none 0 0) => match bnd 0 lo, bnd 0 hi, mx with
    | some l, some h, none => if l ≤ h ∧ h ≤ 0 then some (.val (.slice none 0 0)) else none
    | _, _, _ => none
  | _ => none

theorem slice_of {k : Nat} (hu : P.underlying t = some (.slice e)) (h : sizeA P e = some k) (x : AV) (lo hi mx : Option AV) : sliceA P t x lo hi mx = sliceB k x lo hi mx := by
  obtain ⟨i, hi, rfl⟩ := Option.map_eq_some_iff.1 h
  unfold sliceA sliceB
  rw [hu]
  simp only [hi]
  cases x with
  | val v => cases v with
    | slice a n c => cases a <;> cases n <;> cases c <;> rfl
    | _ => rfl
  | _ => rfl

theorem fillA_congr {p q : Nat → Option (Nat × Nat)} (h : ∀ i, p i = q i) (cs : List AV) (ps : List (Nat × AV)) : fillA p cs ps = fillA q cs ps := by
  have : p = q := funext h
  rw [this]

theorem build_of {fs : Array Field} {z : Value} {k b : Nat} {pl : List (Nat × Nat)} (hu : P.underlying t = some (.struct fs)) (h : infoA P t = some (some z, k, b))
    (hpl : fs.toList.map (fun f => (sizeA P f.type).map fun s => (f.offset, s)) = pl.map some) (ps : List (Nat × AV)) :
    buildA P t ps = (fillA (fun i => pl[i]?) (z.cells.toList.map .val) ps).map .agg := by
  obtain ⟨i, hi, h1, rfl, rfl⟩ := infoA_some h
  unfold buildA
  rw [hu]
  simp only [hi, h1]
  have hget : ∀ j : Nat, (fs[j]?).map (fun f => (sizeA P f.type).map fun s => (f.offset, s)) = (pl[j]?).map some := by
    intro j
    have := congrArg (fun l => l[j]?) hpl
    simpa using this
  have hall : fs.toList.all (fun f => (P.info? f.type).isSome) = true := by
    rw [List.all_eq_true]
    intro f hf
    obtain ⟨j, hj⟩ := List.getElem?_of_mem hf
    have hj' : fs[j]? = some f := by simpa using hj
    have := hget j
    rw [hj', Option.map_some] at this
    cases hp : pl[j]? with
    | none => rw [hp] at this; cases this
    | some q =>
      rw [hp, Option.map_some, Option.some.injEq] at this
      obtain ⟨s, hs, _⟩ := Option.map_eq_some_iff.1 this
      obtain ⟨i', hi', _⟩ := Option.map_eq_some_iff.1 hs
      simp [hi']
  rw [if_pos hall]
  congr 1
  refine fillA_congr (fun j => ?_) _ _
  have := hget j
  unfold placeA
  cases hf : fs[j]? with
  | none =>
    rw [hf] at this
    cases hp : pl[j]? with
    | none => rfl
    | some q => rw [hp] at this; cases this
  | some f =>
    rw [hf, Option.map_some] at this
    cases hp : pl[j]? with
    | none => rw [hp] at this; cases this
    | some q =>
      rw [hp, Option.map_some, Option.some.injEq] at this
      obtain ⟨s, hs, rfl⟩ := Option.map_eq_some_iff.1 this
      obtain ⟨i', hi', rfl⟩ := Option.map_eq_some_iff.1 hs
      simp [hi']

end types

theorem w64 {x : Int} (h1 : -9223372036854775808 ≤ x) (h2 : x ≤ 9223372036854775807) : IntKind.i64.wrap x = x := by
  rw [IntKind.wrap_i64]; omega

theorem wsucc {i n : Nat} (h : i < n) (hn : n ≤ maxLen) : IntKind.i64.wrap ((i : Int) + 1) = ((i + 1 : Nat) : Int) := by
  simp only [maxLen] at hn
  rw [w64 (by omega) (by omega)]; rfl

theorem ite_min (x y : Int) : (if y < x then y else x) = min x y := by
  split <;> omega
theorem ite_max (x y : Int) : (if y > x then y else x) = max x y := by
  split <;> omega

/-- a row of ints -/
theorem bad_first {α : Type} {p : α → Bool} {l : List α} {i : Nat} {x : α} (h : l[i]? = some x) (hx : p x = true) : l.any p = true :=
  List.any_eq_true.2 ⟨x, List.mem_of_getElem? h, hx⟩

theorem bad_none {α : Type} {p : α → Bool} {l : List α} (h : ∀ (j : Nat) (x : α), l[j]? = some x → p x = false) : l.any p = false := by
  rw [List.any_eq_false]
  intro x hx
  obtain ⟨j, hj⟩ := List.getElem?_of_mem hx
  simp [h j x hj]

/-- an operator of two operands that are no two numbers -/
def binR (P : Program) (op : BinOp) (t : TypeId) (x y : Operand) (a b : AV) : Option AV :=
  match op with
  | .eql => if (nilKind P t a && nilOf P t b) || (nilOf P t a && nilKind P t b) then some (.val (.bool false)) else
      match a.flat, b.flat with
      | some u, some v => match aggEq P t u v with
        | some r => some (.val (.bool (r)))
        | none => (pureRun P (do eqGuard .eql t x y u v; binOp .eql t u v)).map .val
      | _, _ => none
  | .neq => if (nilKind P t a && nilOf P t b) || (nilOf P t a && nilKind P t b) then some (.val (.bool true)) else
      match a.flat, b.flat with
      | some u, some v => match aggEq P t u v with
        | some r => some (.val (.bool (!r)))
        | none => (pureRun P (do eqGuard .neq t x y u v; binOp .neq t u v)).map .val
      | _, _ => none
  | op => match a.flat, b.flat with
      | some u, some v => (pureRun P (do eqGuard op t x y u v; binOp op t u v)).map .val
      | _, _ => none

theorem binA_int {P : Program} {op : BinOp} {t : TypeId} {x y : Operand} (k k' : IntKind) (m n : Int) : binA P op t x y (.val (.int k m)) (.val (.int k' n)) = intA P op t k m k' n := rfl
theorem binA_bool {P : Program} {op : BinOp} {t : TypeId} {x y : Operand} (p : Bool) (b : AV) : binA P op t x y (.val (.bool p)) b = binR P op t x y (.val (.bool p)) b := by cases op <;> rfl
theorem binA_str {P : Program} {op : BinOp} {t : TypeId} {x y : Operand} (p : ByteArray) (b : AV) : binA P op t x y (.val (.string p)) b = binR P op t x y (.val (.string p)) b := by cases op <;> rfl
theorem binA_ptr {P : Program} {op : BinOp} {t : TypeId} {x y : Operand} (p : Option Addr) (b : AV) : binA P op t x y (.val (.pointer p)) b = binR P op t x y (.val (.pointer p)) b := by cases op <;> rfl
theorem binA_sl {P : Program} {op : BinOp} {t : TypeId} {x y : Operand} (p : Option Addr) (n c : Nat) (b : AV) : binA P op t x y (.val (.slice p n c)) b = binR P op t x y (.val (.slice p n c)) b := by cases op <;> rfl
theorem binA_map {P : Program} {op : BinOp} {t : TypeId} {x y : Operand} (p : Option Nat) (b : AV) : binA P op t x y (.val (.map p)) b = binR P op t x y (.val (.map p)) b := by cases op <;> rfl
theorem binA_nf {P : Program} {op : BinOp} {t : TypeId} {x y : Operand} (b : AV) : binA P op t x y (.val .nilFunc) b = binR P op t x y (.val .nilFunc) b := by cases op <;> rfl
theorem binA_rptr {P : Program} {op : BinOp} {t : TypeId} {x y : Operand} (cs : List AV) (o : Nat) (b : AV) : binA P op t x y (.rptr cs o) b = binR P op t x y (.rptr cs o) b := by cases op <;> rfl
theorem binA_mptr {P : Program} {op : BinOp} {t : TypeId} {x y : Operand} (i j o : Nat) (b : AV) : binA P op t x y (.mptr i j o) b = binR P op t x y (.mptr i j o) b := by cases op <;> rfl
theorem binA_rsl {P : Program} {op : BinOp} {t : TypeId} {x y : Operand} (es : List (List AV)) (e : Bool) (b : AV) : binA P op t x y (.rsl es e) b = binR P op t x y (.rsl es e) b := by cases op <;> rfl
theorem binA_msl {P : Program} {op : BinOp} {t : TypeId} {x y : Operand} (i o n : Nat) (b : AV) : binA P op t x y (.msl i o n) b = binR P op t x y (.msl i o n) b := by cases op <;> rfl
theorem binA_mp {P : Program} {op : BinOp} {t : TypeId} {x y : Operand} (i : Nat) (b : AV) : binA P op t x y (.mp i) b = binR P op t x y (.mp i) b := by cases op <;> rfl
theorem binA_fn {P : Program} {op : BinOp} {t : TypeId} {x y : Operand} (f : Fn) (cs : List AV) (b : AV) : binA P op t x y (.fn f cs) b = binR P op t x y (.fn f cs) b := by cases op <;> rfl

attribute [go_sem] upd_app env0_app stepA evA guardA binA_int binA_bool binA_str binA_ptr binA_sl binA_map binA_nf binA_rptr binA_mptr binA_rsl binA_msl binA_mp binA_fn binR unA intA boxA isMu AV.cells AV.flat AV.flats Value.cells partsA builtinA lenA maxA maxF appendB srcA sliceB bnd fillA fillE setAt resL resV oneOf
  List.getD_cons_zero List.getD_cons_succ Option.map_some Option.map_none List.map_cons List.map_nil List.getElem?_cons_zero List.getElem?_cons_succ List.getElem?_nil List.length_cons List.length_nil
  List.drop_succ_cons List.drop_zero List.take_succ_cons List.take_zero List.nil_append List.cons_append List.append_nil Option.isSome_some Option.isSome_none Bool.false_eq_true if_true if_false
  Bool.or_true Bool.or_false Bool.true_or Bool.false_or Bool.and_true Bool.and_false Bool.true_and Bool.false_and beq_self_eq_true Bool.not_true Bool.not_false nilKind nilOf true_and and_true get_new get_mid get_mid2 get_mid3 set_new set_mid set_mid2 set_mid3 Int.toNat_natCast Int.natCast_nonneg ge_iff_le List.length_map ite_min ite_max List.replicate_succ List.replicate_zero List.set_cons_zero List.set_cons_succ List.all_cons List.all_nil AV.isCell bne_self_eq_false decide_true decide_false

end Go.Proofs.Ytphfdbmbdaninaa.Ab
