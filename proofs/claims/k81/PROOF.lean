import PyProof.Rows.All
import Wide.All
import OpenK.AllK
import Wide.FinOn
import HandS.ForMost
import HandS.ForExc
import HandS.IsInst
import HandS.Wide
import HandS.Strs
import HandS.More
import HandS.TupAny
import HandS.TupLe
import HandS.TryOnly
import HandS.MakeKw
import KE.KTupSum
import HandS.RaiseMore
import HandS.FStr
import HandS.Text
import HandS.Defaults
import KE.KStateDown
import HandS.Head0
import HandS.Head1
import HandS.Head2
import HandS.HeadEnd
import HandS.HeadHook1
import HandS.HeadHook2
import PySem.Challenge.RW_lockhouse_k81_two_parts
set_option Elab.async false
set_option linter.all false
set_option maxRecDepth 100000
set_option maxHeartbeats 4000000
namespace Lk
open PySem PySem.Spec PyProof.Rows L2
/-! ### results -/
inductive Res (α : Type) where
  | ok (a : α)
  | exc (c : Nat)
  | bug
def Res.bind {α β : Type} : Res α → (α → Res β) → Res β
  | .ok a, f => f a
  | .exc c, _ => .exc c
  | .bug, _ => .bug
instance : Monad Res where
  pure := Res.ok
  bind := Res.bind
@[simp] theorem bind_ok {α β : Type} (a : α) (f : α → Res β) : (Res.ok a >>= f) = f a := by
  have h : ∀ x : Res β, x = x := fun _ => Eq.refl _
  exact h (f a)
@[simp] theorem bind_exc {α β : Type} (c : Nat) (f : α → Res β) : ((Res.exc c : Res α) >>= f) = .exc c := by
  have h : ∀ x : Res β, x = x := fun _ => Eq.refl _
  exact h (.exc c)
@[simp] theorem bind_bug {α β : Type} (f : α → Res β) : ((Res.bug : Res α) >>= f) = .bug := by
  have h : ∀ x : Res β, x = x := fun _ => Eq.refl _
  exact h .bug
@[simp] theorem pure_ok {α : Type} (a : α) : (pure a : Res α) = .ok a := rfl
/-! ### data -/
inductive D where
  | non
  | bl (b : Bool)
  | int (i : Int)
  | str (x : Str)
  | lst (xs : List D)
  | tup (xs : List D)
  | ins (c : Nat) (fs : List (Str × D))
mutual
inductive R (K : PySem.W.Frag) (ca : Nat → Addr) (G : Hp) : V → D → Prop
  | non : R K ca G .non .non
  | bl (b : Bool) : R K ca G (.bl b) (.bl b)
  | int (i : Int) : R K ca G (.int i) (.int i)
  | str (x : Str) : R K ca G (.str x) (.str x)
  | lst {a : Addr} {vs : List V} {ds : List D} : SqL K G a vs → RL K ca G vs ds → R K ca G (.ref a) (.lst ds)
  | tup {a : Addr} {vs : List V} {ds : List D} : SqT K G a vs → RL K ca G vs ds → R K ca G (.ref a) (.tup ds)
  | ins {a dx : Addr} {c : Nat} {fvs : List (Str × V)} {fs : List (Str × D)} : G a = some (.ins (ca c) dx fvs) → RF K ca G fvs fs → R K ca G (.ref a) (.ins c fs)
inductive RL (K : PySem.W.Frag) (ca : Nat → Addr) (G : Hp) : List V → List D → Prop
  | nil : RL K ca G [] []
  | cons {v : V} {vs : List V} {d : D} {ds : List D} : R K ca G v d → RL K ca G vs ds → RL K ca G (v :: vs) (d :: ds)
inductive RF (K : PySem.W.Frag) (ca : Nat → Addr) (G : Hp) : List (Str × V) → List (Str × D) → Prop
  | nil : RF K ca G [] []
  | cons {n : Str} {v : V} {vs : List (Str × V)} {d : D} {ds : List (Str × D)} : R K ca G v d → RF K ca G vs ds → RF K ca G ((n, v) :: vs) ((n, d) :: ds)
end
theorem Same.sqL {K : PySem.W.Frag} {H H' : Hp} {a : Addr} {xs : List V} (e : Same H H') (h : SqL K H a xs) : SqL K H' a xs := Same.seq e h
theorem Same.sqT {K : PySem.W.Frag} {H H' : Hp} {a : Addr} {xs : List V} (e : Same H H') (h : SqT K H a xs) : SqT K H' a xs := by
  rcases h with (h | ⟨o, h⟩) | h
  · exact .inl (.inl (e _ _ h))
  · exact .inl (.inr ⟨o, e _ _ h⟩)
  · exact .inr h
theorem Same.rd {H H' : Hp} {a : Addr} {u : HO} (e : Same H H') (h : Rd H a u) : Rd H' a u := by
  rcases h with h | ⟨o, h⟩
  · exact .inl (e _ _ h)
  · exact .inr ⟨o, e _ _ h⟩
section
variable {K : PySem.W.Frag} {ca : Nat → Addr} {G G' H H' : Hp}
mutual
theorem R.mono (e : Same G G') : ∀ {d : D} {v : V}, R K ca G v d → R K ca G' v d
  | .non, _, h => by cases h; exact .non
  | .bl _, _, h => by cases h; exact .bl _
  | .int _, _, h => by cases h; exact .int _
  | .str _, _, h => by cases h; exact .str _
  | .lst ds, _, h => by cases h with | lst h1 h2 => exact .lst (Same.sqL e h1) (RL.mono e h2)
  | .tup ds, _, h => by cases h with | tup h1 h2 => exact .tup (Same.sqT e h1) (RL.mono e h2)
  | .ins c fs, _, h => by cases h with | ins h1 h2 => exact .ins (e _ _ h1) (RF.mono e h2)
theorem RL.mono (e : Same G G') : ∀ {ds : List D} {vs : List V}, RL K ca G vs ds → RL K ca G' vs ds
  | [], _, h => by cases h; exact .nil
  | d :: ds, _, h => by cases h with | cons h1 h2 => exact .cons (R.mono e h1) (RL.mono e h2)
theorem RF.mono (e : Same G G') : ∀ {fs : List (Str × D)} {vs : List (Str × V)}, RF K ca G vs fs → RF K ca G' vs fs
  | [], _, h => by cases h; exact .nil
  | (n, d) :: ds, _, h => by cases h with | cons h1 h2 => exact .cons (R.mono e h1) (RF.mono e h2)
end
theorem RL.length : ∀ {ds : List D} {vs : List V}, RL K ca G vs ds → vs.length = ds.length
  | [], _, h => by cases h; rfl
  | d :: ds, _, h => by cases h with | cons h1 h2 => simp [RL.length h2]
theorem RL.get : ∀ {ds : List D} {vs : List V} {i : Nat} {d : D}, RL K ca G vs ds → ds[i]? = some d → ∃ v, vs[i]? = some v ∧ R K ca G v d
  | [], _, _, _, _, e => by simp at e
  | d0 :: ds, _, 0, d, h, e => by
    cases h with
    | cons h1 h2 =>
      have e' : d0 = d := by simpa using e
      subst e'
      exact ⟨_, rfl, h1⟩
  | d0 :: ds, _, i + 1, d, h, e => by
    cases h with
    | cons h1 h2 =>
      obtain ⟨v, q1, q2⟩ := RL.get (i := i) h2 (by simpa using e)
      exact ⟨v, by simpa using q1, q2⟩
theorem RL.get' : ∀ {ds : List D} {vs : List V} {i : Nat} {v : V}, RL K ca G vs ds → vs[i]? = some v → ∃ d, ds[i]? = some d ∧ R K ca G v d
  | [], _, _, _, h, e => by cases h; simp at e
  | d0 :: ds, _, 0, v, h, e => by
    cases h with
    | cons h1 h2 =>
      have e' := Option.some.inj (by simpa using e)
      subst e'
      exact ⟨_, rfl, h1⟩
  | d0 :: ds, _, i + 1, v, h, e => by
    cases h with
    | cons h1 h2 =>
      obtain ⟨v, q1, q2⟩ := RL.get' (i := i) h2 (by simpa using e)
      exact ⟨v, by simpa using q1, q2⟩
theorem RL.append : ∀ {ds es : List D} {vs us : List V}, RL K ca G vs ds → RL K ca G us es → RL K ca G (vs ++ us) (ds ++ es)
  | [], _, _, _, h, q => by cases h; exact q
  | d :: ds, _, _, _, h, q => by cases h with | cons h1 h2 => exact .cons h1 (RL.append h2 q)
theorem RL.set {d : D} {v : V} (r : R K ca G v d) : ∀ {ds : List D} {vs : List V} (i : Nat), RL K ca G vs ds → RL K ca G (vs.set i v) (ds.set i d)
  | [], _, _, h => by cases h; exact .nil
  | d0 :: ds, _, 0, h => by cases h with | cons h1 h2 => exact .cons r h2
  | d0 :: ds, _, i + 1, h => by cases h with | cons h1 h2 => exact .cons h1 (RL.set r i h2)
theorem RL.take : ∀ {ds : List D} {vs : List V} (i : Nat), RL K ca G vs ds → RL K ca G (vs.take i) (ds.take i)
  | _, _, 0, h => .nil
  | [], _, i + 1, h => by cases h; exact .nil
  | d0 :: ds, _, i + 1, h => by cases h with | cons h1 h2 => exact .cons h1 (RL.take i h2)
theorem RL.drop : ∀ {ds : List D} {vs : List V} (i : Nat), RL K ca G vs ds → RL K ca G (vs.drop i) (ds.drop i)
  | _, _, 0, h => h
  | [], _, i + 1, h => by cases h; exact .nil
  | d0 :: ds, _, i + 1, h => by cases h with | cons h1 h2 => exact RL.drop i h2
theorem RL.reverse : ∀ {ds : List D} {vs : List V}, RL K ca G vs ds → RL K ca G vs.reverse ds.reverse
  | [], _, h => by cases h; exact .nil
  | d :: ds, _, h => by
    cases h with
    | cons h1 h2 =>
      rw [List.reverse_cons, List.reverse_cons]
      exact RL.append (RL.reverse h2) (.cons h1 .nil)
theorem RL.ints : ∀ {ns : List Int}, RL K ca G (ns.map V.int) (ns.map D.int)
  | [] => .nil
  | n :: ns => .cons (.int n) RL.ints
theorem RL.ints_inv : ∀ {ns : List Int} {vs : List V}, RL K ca G vs (ns.map D.int) → vs = ns.map V.int
  | [], _, h => by cases h; rfl
  | n :: ns, _, h => by cases h with | cons h1 h2 => cases h1; rw [RL.ints_inv h2]; rfl
end
/-! ### what is owned: O, told by its tree; the addresses that it holds -/
inductive O where
  | d (x : D)
  | ol (xs : List D)
  | oi (c : Nat) (fs : List (Str × O))
/-- a set of addresses -/
abbrev AS := Addr → Prop
def none_ : AS := fun _ => False
mutual
inductive Ow (K : PySem.W.Frag) (ca : Nat → Addr) (G H : Hp) : V → O → AS → Prop
  | d {v : V} {x : D} {F : AS} : R K ca G v x → Ow K ca G H v (.d x) F
  | ol {p : Addr} {vs : List V} {xs : List D} {F : AS} : H p = some (.lst vs) → RL K ca G vs xs → F p → Ow K ca G H (.ref p) (.ol xs) F
  | oi {p dx : Addr} {c : Nat} {fvs : List (Str × V)} {fs : List (Str × O)} {F F' : AS} : H p = some (.ins (ca c) dx fvs) → F p → OwF K ca G H fvs fs F' → ¬ F' p → (∀ a, F' a → F a) → Ow K ca G H (.ref p) (.oi c fs) F
inductive OwF (K : PySem.W.Frag) (ca : Nat → Addr) (G H : Hp) : List (Str × V) → List (Str × O) → AS → Prop
  | nil {F : AS} : OwF K ca G H [] [] F
  | cons {n : Str} {v : V} {vs : List (Str × V)} {o : O} {os : List (Str × O)} {F F1 F2 : AS} : Ow K ca G H v o F1 → OwF K ca G H vs os F2 → (∀ a, F1 a → F2 a → False) → (∀ a, F1 a → F a) → (∀ a, F2 a → F a) → OwF K ca G H ((n, v) :: vs) ((n, o) :: os) F
end
section
variable {K : PySem.W.Frag} {ca : Nat → Addr} {G G' H H' : Hp}
mutual
theorem Ow.mono (e : Same G G') : ∀ {o : O} {v : V} {F : AS}, (∀ a u, F a → H a = some u → H' a = some u) → Ow K ca G H v o F → Ow K ca G' H' v o F
  | .d x, _, _, k, h => by cases h with | d h1 => exact .d (h1.mono e)
  | .ol xs, _, _, k, h => by cases h with | ol h1 h2 h3 => exact .ol (k _ _ h3 h1) (h2.mono e) h3
  | .oi c fs, _, _, k, h => by cases h with | oi h1 h2 h3 h4 h5 => exact .oi (k _ _ h2 h1) h2 (OwF.mono e (fun a u q => k a u (h5 a q)) h3) h4 h5
theorem OwF.mono (e : Same G G') : ∀ {fs : List (Str × O)} {vs : List (Str × V)} {F : AS}, (∀ a u, F a → H a = some u → H' a = some u) → OwF K ca G H vs fs F → OwF K ca G' H' vs fs F
  | [], _, _, k, h => by cases h; exact .nil
  | (n, o) :: os, _, _, k, h => by cases h with | cons h1 h2 h3 h4 h5 => exact .cons (Ow.mono e (fun a u q => k a u (h4 a q)) h1) (OwF.mono e (fun a u q => k a u (h5 a q)) h2) h3 h4 h5
end
theorem Ow.wide {o : O} {v : V} {F F' : AS} (k : ∀ a, F a → F' a) (h : Ow K ca G H v o F) : Ow K ca G H v o F' := by
  cases h with
  | d h1 => exact .d h1
  | ol h1 h2 h3 => exact .ol h1 h2 (k _ h3)
  | oi h1 h2 h3 h4 h5 => exact .oi h1 (k _ h2) h3 h4 fun a q => k a (h5 a q)
end
/-! ### a frame's names -/
abbrev Env := List (Option O)
structure EnvOk (K : PySem.W.Frag) (ca : Nat → Addr) (G H : Hp) (σ : L2.St) (ρ : Env) (f : Nat → AS) : Prop where
  sub : Same G H
  slot : ∀ i o, ρ[i]? = some (some o) → ∃ v, σ[i]? = some (some v) ∧ Ow K ca G H v o (f i)
  sep : ∀ i j a, f i a → f j a → i = j
  out : ∀ i a, f i a → G a = none ∧ ∃ o, H a = some o
/-- the heap grows: nothing that stood is touched -/
structure Grow (G H G' H' : Hp) : Prop where
  g : Same G G'
  sub : Same G' H'
  h : Same H H'
  new : ∀ a o, G' a = some o → G a = some o ∨ H a = none
/-- .. with F, which may be touched -/
structure Evo (G H : Hp) (F : AS) (G' H' : Hp) (F' : AS) : Prop where
  g : Same G G'
  sub : Same G' H'
  h : ∀ a o, H a = some o → ¬ F a → H' a = some o
  new : ∀ a o, G' a = some o → G a = some o ∨ H a = none ∨ F a
  own : ∀ a, F' a → F a ∨ H a = none
abbrev All (f : Nat → AS) : AS := fun a => ∃ i, f i a
section
variable {K : PySem.W.Frag} {ca : Nat → Addr} {G H G1 H1 G2 H2 G' H' : Hp} {σ : L2.St} {ρ ρ' : Env} {f : Nat → AS}
theorem Grow.refl (s : Same G H) : Grow G H G H := ⟨Same.refl _, s, Same.refl _, fun a o h => .inl h⟩
theorem Grow.trans (a : Grow G H G1 H1) (b : Grow G1 H1 G2 H2) : Grow G H G2 H2 :=
  ⟨a.g.trans b.g, b.sub, a.h.trans b.h, fun x o h => by
    rcases b.new x o h with q | q
    · exact a.new x o q
    · exact .inr (a.h.free q)⟩
theorem Evo.of_grow {F : AS} (a : Grow G H G' H') : Evo G H F G' H' F :=
  ⟨a.g, a.sub, fun x o h _ => a.h x o h, fun x o h => (a.new x o h).elim .inl fun q => .inr (.inl q), fun _ h => .inl h⟩
theorem Evo.trans {F F1 F2 : AS} (a : Evo G H F G1 H1 F1) (b : Evo G1 H1 F1 G2 H2 F2) : Evo G H F G2 H2 F2 := by
  have back : ∀ x, H1 x = none → H x = none ∨ F x := fun x h => by
    cases q : H x with
    | none => exact .inl rfl
    | some o =>
      by_cases hf : F x
      · exact .inr hf
      · rw [a.h x o q hf] at h
        cases h
  refine ⟨a.g.trans b.g, b.sub, fun x o h n => b.h x o (a.h x o h n) fun k => ?_, fun x o h => ?_, fun x h => ?_⟩
  · rcases a.own x k with q | q
    · exact n q
    · rw [q] at h
      cases h
  · rcases b.new x o h with q | q | q
    · exact a.new x o q
    · rcases back x q with z | z
      · exact .inr (.inl z)
      · exact .inr (.inr z)
    · rcases a.own x q with z | z
      · exact .inr (.inr z)
      · exact .inr (.inl z)
  · rcases b.own x h with q | q
    · exact a.own x q
    · rcases back x q with z | z
      · exact .inr z
      · exact .inl z
theorem Evo.refl {F : AS} (s : Same G H) : Evo G H F G H F := .of_grow (.refl s)
theorem Evo.less {F F' F2 : AS} (a : Evo G H F G' H' F') (k : ∀ x, F2 x → F' x) : Evo G H F G' H' F2 := ⟨a.g, a.sub, a.h, a.new, fun x h => a.own x (k x h)⟩
theorem EnvOk.grow (E : EnvOk K ca G H σ ρ f) (g : Grow G H G' H') : EnvOk K ca G' H' σ ρ f := by
  refine ⟨g.sub, fun i o h => ?_, E.sep, fun i a h => ?_⟩
  · obtain ⟨v, q1, q2⟩ := E.slot i o h
    exact ⟨v, q1, q2.mono g.g fun a u _ z => g.h a u z⟩
  · obtain ⟨q1, o, q2⟩ := E.out i a h
    refine ⟨?_, o, g.h a o q2⟩
    cases q : G' a with
    | none => rfl
    | some u =>
      rcases g.new a u q with z | z
      · rw [q1] at z; cases z
      · rw [q2] at z; cases z
/-- a value is stored, shared or fresh -/
theorem EnvOk.store (E : EnvOk K ca G H σ ρ f) {v : V} {o : O} {g : AS} {i : Nat} (hi : i < σ.length) (h : Ow K ca G H v o g) (new : ∀ a, g a → (∀ j, j ≠ i → ¬ f j a) ∧ G a = none ∧ ∃ u, H a = some u) :
    EnvOk K ca G H (σ.set i (some v)) (ρ.set i (some o)) (fun j => if j = i then g else f j) := by
  refine ⟨E.sub, fun j u hj => ?_, fun j k a h1 h2 => ?_, fun j a h1 => ?_⟩
  · by_cases e : j = i
    · subst e
      have hl : j < (ρ.set j (some o)).length := (List.getElem?_eq_some_iff.mp hj).1
      rw [List.length_set] at hl
      rw [List.getElem?_set_self hl] at hj
      cases hj
      exact ⟨v, List.getElem?_set_self hi, by simpa using h⟩
    · rw [List.getElem?_set_ne (Ne.symm e)] at hj
      obtain ⟨w, q1, q2⟩ := E.slot j u hj
      exact ⟨w, by rw [List.getElem?_set_ne (Ne.symm e)]; exact q1, by simpa [e] using q2⟩
  · by_cases e1 : j = i
    · by_cases e2 : k = i
      · rw [e1, e2]
      · simp only [e1, if_true, e2, if_false] at h1 h2
        exact ((new a h1).1 k e2 h2).elim
    · by_cases e2 : k = i
      · simp only [e1, if_false, e2, if_true] at h1 h2
        exact ((new a h2).1 j e1 h1).elim
      · simp only [e1, if_false, e2] at h1 h2
        exact E.sep j k a h1 h2
  · by_cases e1 : j = i
    · simp only [e1, if_true] at h1
      exact (new a h1).2
    · simp only [e1, if_false] at h1
      exact E.out j a h1
/-- less is known -/
def Env.le (ρ' ρ : Env) : Prop := ∀ (i : Nat) (o : O), ρ'[i]? = some (some o) → ρ[i]? = some (some o)
theorem EnvOk.weak (E : EnvOk K ca G H σ ρ f) (h : Env.le ρ' ρ) : EnvOk K ca G H σ ρ' f := ⟨E.sub, fun i o q => E.slot i o (h i o q), E.sep, E.out⟩
end
end Lk
namespace Lk
open PySem PySem.Spec PyProof.Rows L2
/-- the heap grows; what is new in the shared part was not there at the base Hb -/
structure Gb (Hb G H G' H' : Hp) : Prop where
  g : Same G G'
  sub : Same G' H'
  h : Same H H'
  new : ∀ a o, G' a = some o → G a = some o ∨ Hb a = none
section
variable {Hb G H G1 H1 G2 H2 : Hp}
theorem Gb.refl (s : Same G H) : Gb Hb G H G H := ⟨Same.refl _, s, Same.refl _, fun _ _ h => .inl h⟩
theorem Gb.trans (a : Gb Hb G H G1 H1) (b : Gb Hb G1 H1 G2 H2) : Gb Hb G H G2 H2 :=
  ⟨a.g.trans b.g, b.sub, a.h.trans b.h, fun x o h => (b.new x o h).elim (a.new x o) .inr⟩
theorem Gb.of {H0 : Hp} (s : Same Hb H0) (a : Grow G H0 G1 H1) : Gb Hb G H0 G1 H1 := ⟨a.g, a.sub, a.h, fun x o h => (a.new x o h).elim .inl fun q => .inr (s.free q)⟩
theorem Gb.grow (a : Gb H G H G1 H1) : Grow G H G1 H1 := ⟨a.g, a.sub, a.h, a.new⟩
/-- a new shared object -/
theorem Gb.alloc {p : Addr} {o : HO} (s : Same G H) (b : Same Hb H) (hp : H p = none) : Gb Hb G H (upd G p o) (upd H p o) := by
  have gp : G p = none := s.free hp
  refine ⟨fun a u h => ?_, fun a u h => ?_, fun a u h => ?_, fun a u h => ?_⟩
  · rw [upd_ne (ne_of_none h gp)]; exact h
  · by_cases e : a = p
    · subst e
      rw [upd_same] at h ⊢
      exact h
    · rw [upd_ne e] at h ⊢
      exact s a u h
  · rw [upd_ne (ne_of_none h hp)]; exact h
  · by_cases e : a = p
    · subst e
      exact .inr (b.free hp)
    · rw [upd_ne e] at h
      exact .inl h
/-- a new object that is owned -/
theorem Gb.own {p : Addr} {o : HO} (s : Same G H) (hp : H p = none) : Gb Hb G H G (upd H p o) := by
  refine ⟨Same.refl _, fun a u h => ?_, fun a u h => ?_, fun a u h => .inl h⟩
  · rw [upd_ne (ne_of_none (s a u h) hp)]; exact s a u h
  · rw [upd_ne (ne_of_none h hp)]; exact h
end
/-- the core of all readings of expressions: the run's result m, and what is wanted of it -/
structure Cr {α : Type} (K : PySem.W.Frag) (ca : Nat → Addr) (W : WX) (ρ : Env) (σ : L2.St) (Hb G H : Hp) (m : Res α) (P : α → Hp → Hp → Prop) : Prop where
  sb : Same Hb H
  env : ∃ f, EnvOk K ca G H σ ρ f ∧ ∀ i a, f i a → ∃ u, Hb a = some u
  nb : m ≠ .bug
  ok : ∀ a, m = .ok a → ∀ G' H', Gb Hb G H G' H' → P a G' H'
  ex : ∀ c, m = .exc c → ∀ G' H', Gb Hb G H G' H' → W (.ref (ca c)) none σ H'
section
variable {α β : Type} {K : PySem.W.Frag} {ca : Nat → Addr} {W : WX} {ρ : Env} {σ : L2.St} {Hb G H G1 H1 : Hp} {P : α → Hp → Hp → Prop} {P' : β → Hp → Hp → Prop}
theorem EnvOk.gb {f : Nat → AS} (E : EnvOk K ca G H σ ρ f) (b : ∀ i a, f i a → ∃ u, Hb a = some u) (g : Gb Hb G H G1 H1) : EnvOk K ca G1 H1 σ ρ f := by
  refine ⟨g.sub, fun i o h => ?_, E.sep, fun i a h => ?_⟩
  · obtain ⟨v, q1, q2⟩ := E.slot i o h
    exact ⟨v, q1, q2.mono g.g fun a u _ z => g.h a u z⟩
  · obtain ⟨q1, o, q2⟩ := E.out i a h
    refine ⟨?_, o, g.h a o q2⟩
    cases q : G1 a with
    | none => rfl
    | some u =>
      rcases g.new a u q with z | z
      · rw [q1] at z; cases z
      · obtain ⟨w, hw⟩ := b i a h
        rw [hw] at z; cases z
theorem Cr.sub {m : Res α} (h : Cr K ca W ρ σ Hb G H m P) : Same G H := let ⟨_, E, _⟩ := h.env; E.sub
theorem Cr.cut {m : Res α} {k : α → Res β} (h : Cr K ca W ρ σ Hb G H (m >>= k) P') (hk : ∀ a G1 H1, m = .ok a → Gb Hb G H G1 H1 → Cr K ca W ρ σ Hb G1 H1 (k a) P' → P a G1 H1) : Cr K ca W ρ σ Hb G H m P := by
  obtain ⟨f, E, hf⟩ := h.env
  refine ⟨h.sb, ⟨f, E, hf⟩, fun e => h.nb (by rw [e]; rfl), fun a e G1 H1 gr => hk a G1 H1 e gr ⟨h.sb.trans gr.h, ⟨f, E.gb hf gr, hf⟩, fun e2 => h.nb (by rw [e]; exact e2), fun b e2 G2 H2 gr2 => h.ok b (by rw [e]; exact e2) G2 H2 (gr.trans gr2), fun c e2 G2 H2 gr2 => h.ex c (by rw [e]; exact e2) G2 H2 (gr.trans gr2)⟩,
    fun c e G1 H1 gr => h.ex c (by rw [e]; rfl) G1 H1 gr⟩
/-- as it stands, with another wish -/
theorem Cr.to {m : Res α} {P2 : α → Hp → Hp → Prop} (h : Cr K ca W ρ σ Hb G H m P) (hk : ∀ a G1 H1, m = .ok a → Gb Hb G H G1 H1 → P a G1 H1 → P2 a G1 H1) : Cr K ca W ρ σ Hb G H m P2 :=
  ⟨h.sb, h.env, h.nb, fun a e G1 H1 gr => hk a G1 H1 e gr (h.ok a e G1 H1 gr), h.ex⟩
theorem Cr.done {a : α} (h : Cr K ca W ρ σ Hb G H (.ok a) P) : P a G H := h.ok a rfl G H (.refl h.sub)
theorem Cr.go {a : α} (h : Cr K ca W ρ σ Hb G H (.ok a) P) (g : Gb Hb G H G1 H1) : P a G1 H1 := h.ok a rfl G1 H1 g
end
/-! ### the readings -/
section
variable (K : PySem.W.Frag) (ca : Nat → Addr) (W : WX) (ρ : Env)
/-- data -/
def tD (m : Res D) : TE := fun σ H Q => ∃ Hb G, Cr K ca W ρ σ Hb G H m fun d G' H' => ∀ v, R K ca G' v d → Q v H'
/-- a new list, of the asker's own -/
def tL (m : Res (List D)) : TE := fun σ H Q => ∃ Hb G, Cr K ca W ρ σ Hb G H m fun xs G' H' => ∀ p vs, Hb p = none → G' p = none → H' p = some (.lst vs) → RL K ca G' vs xs → Q (.ref p) H'
/-- a test -/
def tB (m : Res Bool) : TT := fun σ H Q => ∃ Hb G, Cr K ca W ρ σ Hb G H m fun b _ H' => Q b H'
/-- arguments -/
def tArg (m : Res (List D)) : TA := fun σ H Q => ∃ Hb G, Cr K ca W ρ σ Hb G H m fun ds G' H' => ∀ vs, RL K ca G' vs ds → Q vs H'
/-- a bound of a slice -/
def tPart' (m : Res (Option Int)) : TO := fun σ H Q => ∃ Hb G, Cr K ca W ρ σ Hb G H m fun i _ H' => Q i H'
end
theorem PE.of {X : Cx} {e : Expr} {t t' : TE} (h : PE X e t) (k : ∀ σ H Q, t' σ H Q → t σ H Q) : PE X e t' := ⟨fun pins s σ H Q I q => h.run pins s σ H Q I (k σ H Q q)⟩
theorem PT.of {X : Cx} {e : Expr} {t t' : TT} (h : PT X e t) (k : ∀ σ H Q, t' σ H Q → t σ H Q) : PT X e t' := ⟨fun pins s σ H Q I q => h.run pins s σ H Q I (k σ H Q q)⟩
theorem PW.of {X : Cx} {e : Expr} {t t' : TT} (h : PW X e t) (k : ∀ σ H Q, t' σ H Q → t σ H Q) : PW X e t' := ⟨fun wh pins s σ H Q I q => h.run wh pins s σ H Q I (k σ H Q q)⟩
theorem PA.of {X : Cx} {e : List Expr} {t t' : TA} (h : PA X e t) (k : ∀ σ H Q, t' σ H Q → t σ H Q) : PA X e t' := ⟨fun pos pins s σ H Q I q => h.run pos pins s σ H Q I (k σ H Q q)⟩
theorem PE.two {X : Cx} {e : Expr} {t t' : TE} (h : PE X e t) (h' : PE X e t') : PE X e (fun σ H Q => t σ H Q ∨ t' σ H Q) := ⟨fun pins s σ H Q I q => q.elim (h.run pins s σ H Q I) (h'.run pins s σ H Q I)⟩
theorem PS.of {X : Cx} {e : Stmt} {t t' : TS} (h : PS X e t) (k : ∀ D σ H, t' D σ H → t D σ H) : PS X e t' := ⟨fun pins s σ H D I q => h.run pins s σ H D I (k D σ H q)⟩
theorem PSs.of {X : Cx} {e : List Stmt} {t t' : TS} (h : PSs X e t) (k : ∀ D σ H, t' D σ H → t D σ H) : PSs X e t' := ⟨fun pins s σ H D I q => h.run pins s σ H D I (k D σ H q)⟩
/-! ### operations on values, told by data -/
/-- a rule of values r keeps to f -/
def Lift2 (K : PySem.W.Frag) (ca : Nat → Addr) (r : R2) (f : D → D → Res D) : Prop := ∀ {Hb G H : Hp} {v w : V} {x y : D} {Q : VK}, Same Hb H → Same G H → R K ca G v x → R K ca G w y → f x y ≠ .bug →
  (∀ z G' H', f x y = .ok z → Gb Hb G H G' H' → ∀ v', R K ca G' v' z → Q v' H') → r v w H Q
def Lift1 (K : PySem.W.Frag) (ca : Nat → Addr) (r : V → Hp → VK → Prop) (f : D → Res D) : Prop := ∀ {Hb G H : Hp} {v : V} {x : D} {Q : VK}, Same Hb H → Same G H → R K ca G v x → f x ≠ .bug →
  (∀ z G' H', f x = .ok z → Gb Hb G H G' H' → ∀ v', R K ca G' v' z → Q v' H') → r v H Q
def LiftA (K : PySem.W.Frag) (ca : Nat → Addr) (r : List V → Hp → VK → Prop) (f : List D → Res D) : Prop := ∀ {Hb G H : Hp} {vs : List V} {xs : List D} {Q : VK}, Same Hb H → Same G H → RL K ca G vs xs → f xs ≠ .bug →
  (∀ z G' H', f xs = .ok z → Gb Hb G H G' H' → ∀ v', R K ca G' v' z → Q v' H') → r vs H Q
/-- .. that gives a new list -/
def LiftAL (K : PySem.W.Frag) (ca : Nat → Addr) (r : List V → Hp → VK → Prop) (f : List D → Res (List D)) : Prop := ∀ {G H : Hp} {vs : List V} {xs : List D} {Q : VK}, Same G H → RL K ca G vs xs → f xs ≠ .bug →
  (∀ zs p ws, f xs = .ok zs → H p = none → RL K ca G ws zs → Q (.ref p) (upd H p (.lst ws))) → r vs H Q
def Lift2L (K : PySem.W.Frag) (ca : Nat → Addr) (r : R2) (f : D → D → Res (List D)) : Prop := ∀ {G H : Hp} {v w : V} {x y : D} {Q : VK}, Same G H → R K ca G v x → R K ca G w y → f x y ≠ .bug →
  (∀ zs p ws, f x y = .ok zs → H p = none → RL K ca G ws zs → Q (.ref p) (upd H p (.lst ws))) → r v w H Q
section
variable {X : Cx} {ca : Nat → Addr} {W : WX} {ρ : Env} {a b c e : Expr} {es : List Expr} {pos : Pos} {ma mb mc m : Res D} {i : Nat}
/-! ### names and constants -/
theorem e_var {n : Str} {p : Pos} {x : D} (hN : X.N[i]? = some n) (hv : Vis X.env.scope n) (h : ρ[i]? = some (some (.d x))) (hd : (n == ("__debug__" : Str)) = false) (hcd : (n == ("__classdict__" : Str)) = false) : PE X (.Name n p) (tD X.K ca W ρ (.ok x)) :=
  PE.of (pe_var hN hv hd hcd) fun σ H Q ⟨Hb, G, h1⟩ => by
    obtain ⟨f, E, _⟩ := h1.env
    obtain ⟨v, q1, q2⟩ := E.slot i _ h
    cases q2 with
    | d q2 => exact ⟨v, q1, h1.done v q2⟩
theorem e_const {v : V} {x : D} (h : PE X e (tC v)) (r : ∀ G, R X.K ca G v x) : PE X e (tD X.K ca W ρ (.ok x)) := PE.of h fun σ H Q ⟨Hb, G, h1⟩ => h1.done v (r G)
theorem e_int {i : Int} {j pos} : PE X (.Constant (.int i) j pos) (tD X.K ca W ρ (.ok (.int i))) := e_const pe_int fun _ => .int _
theorem e_str {x : Str} {j pos} : PE X (.Constant (.str x) j pos) (tD X.K ca W ρ (.ok (.str x))) := e_const pe_str fun _ => .str _
theorem e_bl {x : Bool} {j pos} : PE X (.Constant (.bool x) j pos) (tD X.K ca W ρ (.ok (.bl x))) := e_const pe_bl fun _ => .bl _
theorem e_non {j pos} : PE X (.Constant .none j pos) (tD X.K ca W ρ (.ok .non)) := e_const pe_non fun _ => .non
/-- a module's constant -/
theorem e_glob {n : Str} {p : Pos} {v : V} {u : Value} {x : D} (hg : Gl X n) (hm : X.mg n = some u) (rv : RelV v u) (r : ∀ G, R X.K ca G v x) (hd : (n == ("__debug__" : Str)) = false) : PE X (.Name n p) (tD X.K ca W ρ (.ok x)) := e_const (pe_glob hg hm rv hd) r
/-! ### operators -/
theorem e_op {op : Operator} {r : R2} {f : D → D → Res D} (ho : OpR X (binaryOp op) r) (l : Lift2 X.K ca r f) (ha : PE X a (tD X.K ca W ρ ma)) (hb : PE X b (tD X.K ca W ρ mb)) :
    PE X (.BinOp a op b pos) (tD X.K ca W ρ (ma >>= fun x => mb >>= fun y => f x y)) :=
  PE.of (pe_op ho ha hb) fun σ H Q ⟨Hb, G, h⟩ => ⟨Hb, G, h.cut fun x G1 H1 _ g1 h1 v rv => ⟨Hb, G1, h1.cut fun y G2 H2 _ g2 h2 w rw' =>
    l h2.sb h2.sub (rv.mono g2.g) rw' h2.nb fun z G' H' ez g' v' r' => h2.ok z ez G' H' g' v' r'⟩⟩
theorem e_opL {op : Operator} {r : R2} {f : D → D → Res (List D)} (ho : OpR X (binaryOp op) r) (l : Lift2L X.K ca r f) (ha : PE X a (tD X.K ca W ρ ma)) (hb : PE X b (tD X.K ca W ρ mb)) :
    PE X (.BinOp a op b pos) (tL X.K ca W ρ (ma >>= fun x => mb >>= fun y => f x y)) :=
  PE.of (pe_op ho ha hb) fun σ H Q ⟨Hb, G, h⟩ => ⟨Hb, G, h.cut fun x G1 H1 _ g1 h1 v rv => ⟨Hb, G1, h1.cut fun y G2 H2 _ g2 h2 w rw' =>
    l h2.sub (rv.mono g2.g) rw' h2.nb fun zs p ws ez hp rl => h2.ok zs ez _ _ (Gb.own h2.sub hp) p ws (h2.sb.free hp) (h2.sub.free hp) upd_same rl⟩⟩
theorem e_un {op : UnaryOp} {r : V → Hp → VK → Prop} {f : D → Res D} (ho : UnR X (unaryOp op) r) (l : Lift1 X.K ca r f) (ha : PE X a (tD X.K ca W ρ ma)) : PE X (.UnaryOp op a pos) (tD X.K ca W ρ (ma >>= fun x => f x)) :=
  PE.of (pe_un ho ha) fun σ H Q ⟨Hb, G, h⟩ => ⟨Hb, G, h.cut fun x G1 H1 _ g1 h1 v rv => l h1.sb h1.sub rv h1.nb fun z G' H' ez g' v' r' => h1.ok z ez G' H' g' v' r'⟩
theorem e_cmp {op : CmpOp} {r : R2} {f : D → D → Res D} (ho : OpR X (compareOp op) r) (l : Lift2 X.K ca r f) (ha : PE X a (tD X.K ca W ρ ma)) (hb : PE X b (tD X.K ca W ρ mb)) (hm : behindInMarks op b = false) :
    PE X (.Compare a [op] [b] pos) (tD X.K ca W ρ (ma >>= fun x => mb >>= fun y => f x y)) :=
  PE.of (pe_cmpR ho ha hb hm) fun σ H Q ⟨Hb, G, h⟩ => ⟨Hb, G, h.cut fun x G1 H1 _ g1 h1 v rv => ⟨Hb, G1, h1.cut fun y G2 H2 _ g2 h2 w rw' =>
    l h2.sb h2.sub (rv.mono g2.g) rw' h2.nb fun z G' H' ez g' v' r' => h2.ok z ez G' H' g' v' r'⟩⟩
/-- a truth value -/
def D.toB : D → Res Bool
  | .bl b => .ok b
  | _ => .bug
@[simp] theorem toB_bl (b : Bool) : D.toB (.bl b) = .ok b := rfl
theorem t_cmp {op : CmpOp} {r : R2} {f : D → D → Res D} (ho : OpR X (compareOp op) r) (l : Lift2 X.K ca r f) (ha : PE X a (tD X.K ca W ρ ma)) (hb : PE X b (tD X.K ca W ρ mb)) (hm : behindInMarks op b = false) :
    PT X (.Compare a [op] [b] pos) (tB X.K ca W ρ (ma >>= fun x => mb >>= fun y => f x y >>= D.toB)) :=
  PT.of (pt_cmpR ho ha hb hm) fun σ H Q ⟨Hb, G, h⟩ => ⟨Hb, G, h.cut fun x G1 H1 _ g1 h1 v rv => ⟨Hb, G1, h1.cut fun y G2 H2 _ g2 h2 w rw' => by
    have h3 := h2.cut (P := fun z G' H' => ∀ v', R X.K ca G' v' z → ∃ k, v' = V.bl k ∧ Q k H') fun z G3 H3 ez g3 h4 v' r' => by
      cases z with
      | bl k =>
        cases r'
        exact ⟨k, rfl, h4.done⟩
      | _ => exact (h4.nb rfl).elim
    exact l h2.sb h2.sub (rv.mono g2.g) rw' h3.nb fun z G' H' ez g' v' r' => h3.ok z ez G' H' g' v' r'⟩⟩
/-- a value that is True or False, as a test -/
theorem t_val (ha : PE X a (tD X.K ca W ρ ma)) (he : ∀ whole, isTrue a X.env whole = (do let v ← whole; standAt a.pos; holding [v] (truthy v)) := by intro _; rfl) : PT X a (tB X.K ca W ρ (ma >>= D.toB)) :=
  PT.of (pt_val ha he) fun σ H Q ⟨Hb, G, h⟩ => ⟨Hb, G, h.cut fun x G1 H1 _ g1 h1 v rv => by
    cases x with
    | bl k =>
      cases rv
      exact ⟨k, rfl, h1.done⟩
    | _ => exact (h1.nb rfl).elim⟩
/-- a value's truth -/
def D.truth : D → Res Bool
  | .non => .ok false
  | .bl b => .ok b
  | .int i => .ok (i != 0)
  | .str s => if s.length ≤ 100000 then .ok (s.length != 0) else .bug
  | .lst xs => .ok (!xs.isEmpty)
  | .tup xs => .ok (!xs.isEmpty)
  | _ => .bug
theorem sz' {n : Nat} (h : n ≤ 100000) : n ≤ sizeLine := Nat.le_trans h (by decide)
theorem t_truth (ha : PE X a (tD X.K ca W ρ ma)) (he : ∀ whole, isTrue a X.env whole = (do let v ← whole; standAt a.pos; holding [v] (truthy v)) := by intro _; rfl) : PT X a (tB X.K ca W ρ (ma >>= D.truth)) :=
  PT.of (pt_truth ha he) fun σ H Q ⟨Hb, G, h⟩ => ⟨Hb, G, h.cut fun x G1 H1 _ g1 h1 v rv => by
    cases x with
    | non => cases rv; exact ⟨false, rfl, h1.done⟩
    | bl k => cases rv; exact ⟨k, rfl, h1.done⟩
    | int i => cases rv; exact ⟨_, rfl, h1.done⟩
    | str s =>
      cases rv
      by_cases hs : s.length ≤ 100000
      · have e : D.truth (.str s) = .ok (s.length != 0) := if_pos hs
        refine ⟨_, ⟨sz' hs, ?_⟩, h1.ok _ e _ _ (.refl h1.sub)⟩
        cases hz : s.length with
        | zero => rfl
        | succ n => simp; omega
      · exact (h1.nb (if_neg hs)).elim
    | lst xs =>
      cases rv with
      | lst q1 q2 =>
        refine ⟨_, .inl ⟨_, Same.sqL h1.sub q1, rfl⟩, ?_⟩
        have e := RL.length q2
        rename_i a' vs
        have e2 : (!vs.isEmpty) = (!xs.isEmpty) := by cases vs <;> cases xs <;> first | rfl | (simp at e)
        rw [e2]
        exact h1.done
    | tup xs =>
      cases rv with
      | tup q1 q2 =>
        refine ⟨_, .inr (.inl ⟨_, Same.sqT h1.sub q1, rfl⟩), ?_⟩
        have e := RL.length q2
        rename_i a' vs
        have e2 : (!vs.isEmpty) = (!xs.isEmpty) := by cases vs <;> cases xs <;> first | rfl | (simp at e)
        rw [e2]
        exact h1.done
    | ins c fs => exact (h1.nb rfl).elim⟩
/-! ### and, or, not -/
variable {na nb : Res Bool} {rest : List Expr}
theorem t_not (ha : PT X a (tB X.K ca W ρ na)) : PT X (.UnaryOp .Not a pos) (tB X.K ca W ρ (na >>= fun x => .ok (!x))) :=
  PT.of (pt_not ha) fun σ H Q ⟨Hb, G, h⟩ => ⟨Hb, G, h.cut fun x G1 H1 _ g1 h1 => h1.done⟩
theorem w_and1 (ha : PT X a (tB X.K ca W ρ na)) : PW X (.BoolOp .And [a] pos) (tB X.K ca W ρ na) := pw_and1 ha
theorem w_or1 (ha : PT X a (tB X.K ca W ρ na)) : PW X (.BoolOp .Or [a] pos) (tB X.K ca W ρ na) := pw_or1 ha
theorem w_and (ha : PT X a (tB X.K ca W ρ na)) (hb : PW X (.BoolOp .And (b :: rest) pos) (tB X.K ca W ρ nb)) : PW X (.BoolOp .And (a :: b :: rest) pos) (tB X.K ca W ρ (na >>= fun x => if x then nb else .ok false)) :=
  PW.of (pw_and ha hb) fun σ H Q ⟨Hb, G, h⟩ => ⟨Hb, G, h.cut fun x G1 H1 _ g1 h1 => by
    cases x with
    | true => exact ⟨Hb, G1, h1⟩
    | false => exact h1.done⟩
theorem w_or (ha : PT X a (tB X.K ca W ρ na)) (hb : PW X (.BoolOp .Or (b :: rest) pos) (tB X.K ca W ρ nb)) : PW X (.BoolOp .Or (a :: b :: rest) pos) (tB X.K ca W ρ (na >>= fun x => if x then .ok true else nb)) :=
  PW.of (pw_or ha hb) fun σ H Q ⟨Hb, G, h⟩ => ⟨Hb, G, h.cut fun x G1 H1 _ g1 h1 => by
    cases x with
    | true => exact h1.done
    | false => exact ⟨Hb, G1, h1⟩⟩
/-- .. as values, all but the last True or False -/
theorem e_one {op} (h : PE X a (tD X.K ca W ρ ma)) : PE X (.BoolOp op [a] pos) (tD X.K ca W ρ ma) := pe_one h
theorem e_and (ha : PE X a (tD X.K ca W ρ ma)) (hb : PE X (.BoolOp .And (b :: rest) pos) (tD X.K ca W ρ mb)) : PE X (.BoolOp .And (a :: b :: rest) pos) (tD X.K ca W ρ (ma >>= fun x => D.toB x >>= fun k => if k then mb else .ok (.bl false))) :=
  PE.of (pe_and ha hb) fun σ H Q ⟨Hb, G, h⟩ => ⟨Hb, G, h.cut fun x G1 H1 _ g1 h1 v rv => by
    cases x with
    | bl k =>
      cases rv
      refine ⟨k, rfl, ?_⟩
      cases k with
      | true => exact ⟨Hb, G1, h1⟩
      | false => exact h1.done _ (.bl false)
    | _ => exact (h1.nb rfl).elim⟩
theorem e_or (ha : PE X a (tD X.K ca W ρ ma)) (hb : PE X (.BoolOp .Or (b :: rest) pos) (tD X.K ca W ρ mb)) : PE X (.BoolOp .Or (a :: b :: rest) pos) (tD X.K ca W ρ (ma >>= fun x => D.toB x >>= fun k => if k then .ok (.bl true) else mb)) :=
  PE.of (pe_or ha hb) fun σ H Q ⟨Hb, G, h⟩ => ⟨Hb, G, h.cut fun x G1 H1 _ g1 h1 v rv => by
    cases x with
    | bl k =>
      cases rv
      refine ⟨k, rfl, ?_⟩
      cases k with
      | true => exact h1.done _ (.bl true)
      | false => exact ⟨Hb, G1, h1⟩
    | _ => exact (h1.nb rfl).elim⟩
/-- not a, a True or False -/
theorem e_not (ha : PE X a (tD X.K ca W ρ ma)) : PE X (.UnaryOp .Not a pos) (tD X.K ca W ρ (ma >>= fun x => D.toB x >>= fun k => .ok (.bl (!k)))) :=
  PE.of (pe_not ha) fun σ H Q ⟨Hb, G, h⟩ => ⟨Hb, G, h.cut fun x G1 H1 _ g1 h1 v rv => by
    cases x with
    | bl k =>
      cases rv
      exact ⟨k, rfl, h1.done _ (.bl _)⟩
    | _ => exact (h1.nb rfl).elim⟩
theorem e_if (hc : PT X c (tB X.K ca W ρ na)) (ha : PE X a (tD X.K ca W ρ ma)) (hb : PE X b (tD X.K ca W ρ mb)) : PE X (.IfExp c a b pos) (tD X.K ca W ρ (na >>= fun x => if x then ma else mb)) :=
  PE.of (pe_ifExp hc ha hb) fun σ H Q ⟨Hb, G, h⟩ => ⟨Hb, G, h.cut fun x G1 H1 _ g1 h1 => by
    cases x with
    | true => exact ⟨Hb, G1, h1⟩
    | false => exact ⟨Hb, G1, h1⟩⟩
/-! ### arguments, displays -/
variable {mas : Res (List D)}
theorem a_nil : PA X [] (tArg X.K ca W ρ (.ok [])) := PA.of pa_nil fun σ H Q ⟨Hb, G, h⟩ => h.done [] .nil
theorem a_cons (ha : PE X e (tD X.K ca W ρ ma)) (hr : PA X es (tArg X.K ca W ρ mas)) (hs : starEach (e :: es) X.env = (false, eval e X.env) :: starEach es X.env := by rfl) : PA X (e :: es) (tArg X.K ca W ρ (ma >>= fun x => mas >>= fun xs => .ok (x :: xs))) :=
  PA.of (pa_cons ha hr hs) fun σ H Q ⟨Hb, G, h⟩ => ⟨Hb, G, h.cut fun x G1 H1 _ g1 h1 v rv => ⟨Hb, G1, h1.cut fun xs G2 H2 _ g2 h2 vs rvs => h2.done _ (.cons (rv.mono g2.g) rvs)⟩⟩
/-- sizes of what is made -/
def Res.sized (xs : List D) : Res (List D) := if xs.length ≤ 100000 then .ok xs else .bug
theorem Res.sized_ok {xs : List D} (h : xs.length ≤ 100000) : Res.sized xs = .ok xs := if_pos h
theorem e_tup {k} (h : PA X es (tArg X.K ca W ρ mas)) : PE X (.Tuple es k pos) (tD X.K ca W ρ (mas >>= fun xs => Res.sized xs >>= fun xs => .ok (.tup xs))) :=
  PE.of (pe_tup h) fun σ H Q ⟨Hb, G, h⟩ => ⟨Hb, G, h.cut fun xs G1 H1 _ g1 h1 vs rvs => by
    by_cases hz : xs.length ≤ 100000
    · rw [Res.sized_ok hz] at h1
      refine ⟨sz' (by rw [rvs.length]; exact hz), fun p hp => ?_⟩
      have g := Gb.alloc (o := .tup vs) h1.sub h1.sb hp
      exact h1.ok _ rfl _ _ g _ (.tup (.inl (.inl upd_same)) (rvs.mono g.g))
    · exact (h1.nb (by unfold Res.sized; rw [if_neg hz]; rfl)).elim⟩
theorem e_lst (h : PA X es (tArg X.K ca W ρ mas)) : PE X (.List es pos) (tL X.K ca W ρ (mas >>= fun xs => Res.sized xs)) :=
  PE.of (pe_lst h) fun σ H Q ⟨Hb, G, h⟩ => ⟨Hb, G, h.cut fun xs G1 H1 _ g1 h1 vs rvs => by
    by_cases hz : xs.length ≤ 100000
    · rw [Res.sized_ok hz] at h1
      refine ⟨sz' (by rw [rvs.length]; exact hz), fun p hp => ?_⟩
      exact h1.go (Gb.own h1.sub hp) p vs (h1.sb.free hp) (h1.sub.free hp) upd_same rvs
    · exact (h1.nb (if_neg hz)).elim⟩
/-- a new list is shared -/
theorem e_pub (h : PE X e (tL X.K ca W ρ mas)) : PE X e (tD X.K ca W ρ (mas >>= fun xs => .ok (.lst xs))) :=
  PE.of h fun σ H Q ⟨Hb, G, h⟩ => ⟨Hb, G, h.cut fun xs G1 H1 _ g1 h1 p vs hp gp hh rl => by
    have g : Gb Hb G1 H1 (upd G1 p (.lst vs)) H1 := by
      refine ⟨fun a u z => ?_, fun a u z => ?_, Same.refl _, fun a u z => ?_⟩
      · rw [upd_ne (ne_of_none z gp)]; exact z
      · by_cases e : a = p
        · subst e
          rw [upd_same] at z
          rw [hh]; exact z
        · rw [upd_ne e] at z
          exact h1.sub a u z
      · by_cases e : a = p
        · subst e
          exact .inr hp
        · rw [upd_ne e] at z
          exact .inl z
    exact h1.go g _ (.lst (.inl (.inl upd_same)) (rl.mono g.g))⟩
/-- a value as the only argument, the last -/
theorem a_one (ha : PE X e (tD X.K ca W ρ ma)) (hs : starEach (e :: []) X.env = (false, eval e X.env) :: starEach [] X.env := by rfl) : PA X [e] (tArg X.K ca W ρ (ma >>= fun x => .ok [x])) :=
  PA.of (a_cons ha a_nil hs) fun σ H Q ⟨Hb, G, h⟩ => ⟨Hb, G, h⟩
/-! ### built-in calls -/
variable {id T : String} {n : Str} {p : Pos}
theorem e_callB {r : List V → Hp → VK → Prop} {f : List D → Res D} (hc : CallR X (.builtin id) r) (l : LiftA X.K ca r f) (hg : Gl X n) (hm : X.mg n = none) (hv : bootBuiltins n = some (.builtin id)) (ha : PA X (e :: es) (tArg X.K ca W ρ mas)) (hn : n ≠ "__name__" := by decide)
    (hdb : (n == ("__debug__" : Str)) = false := by decide) (he : starEach (e :: es) X.env = (false, eval e X.env) :: starEach es X.env := by rfl) (hpl : (backTo pos (starEach es X.env)).any (·.1) = false := by rfl) : PE X (.Call (.Name n p) (e :: es) [] pos) (tD X.K ca W ρ (mas >>= fun xs => f xs)) :=
  PE.of (pe_callB hc hg hm hv ha hn hdb he hpl) fun σ H Q ⟨Hb, G, h⟩ => ⟨Hb, G, h.cut fun xs G1 H1 _ g1 h1 vs rvs => l h1.sb h1.sub rvs h1.nb fun z G' H' ez g' v' r' => h1.ok z ez G' H' g' v' r'⟩
theorem e_callT {r : List V → Hp → VK → Prop} {f : List D → Res D} (hc : CallR X (.type T) r) (l : LiftA X.K ca r f) (hg : Gl X n) (hm : X.mg n = none) (hv : bootBuiltins n = some (.type T)) (ha : PA X (e :: es) (tArg X.K ca W ρ mas)) (hn : n ≠ "__name__" := by decide)
    (hdb : (n == ("__debug__" : Str)) = false := by decide) (he : starEach (e :: es) X.env = (false, eval e X.env) :: starEach es X.env := by rfl) (hpl : (backTo pos (starEach es X.env)).any (·.1) = false := by rfl) : PE X (.Call (.Name n p) (e :: es) [] pos) (tD X.K ca W ρ (mas >>= fun xs => f xs)) :=
  PE.of (pe_callTy hc hg hm hv ha hn hdb he hpl) fun σ H Q ⟨Hb, G, h⟩ => ⟨Hb, G, h.cut fun xs G1 H1 _ g1 h1 vs rvs => l h1.sb h1.sub rvs h1.nb fun z G' H' ez g' v' r' => h1.ok z ez G' H' g' v' r'⟩
theorem e_callTL {r : List V → Hp → VK → Prop} {f : List D → Res (List D)} (hc : CallR X (.type T) r) (l : LiftAL X.K ca r f) (hg : Gl X n) (hm : X.mg n = none) (hv : bootBuiltins n = some (.type T)) (ha : PA X (e :: es) (tArg X.K ca W ρ mas)) (hn : n ≠ "__name__" := by decide)
    (hdb : (n == ("__debug__" : Str)) = false := by decide) (he : starEach (e :: es) X.env = (false, eval e X.env) :: starEach es X.env := by rfl) (hpl : (backTo pos (starEach es X.env)).any (·.1) = false := by rfl) : PE X (.Call (.Name n p) (e :: es) [] pos) (tL X.K ca W ρ (mas >>= fun xs => f xs)) :=
  PE.of (pe_callTy hc hg hm hv ha hn hdb he hpl) fun σ H Q ⟨Hb, G, h⟩ => ⟨Hb, G, h.cut fun xs G1 H1 _ g1 h1 vs rvs => l h1.sub rvs h1.nb fun zs q ws ez hp rl => h1.ok zs ez _ _ (Gb.own h1.sub hp) q ws (h1.sb.free hp) (h1.sub.free hp) upd_same rl⟩
end
end Lk
namespace Lk
open PySem PySem.Spec PyProof.Rows L2
def lim : Nat := 100000
/-- a new shared object's value -/
theorem R.newT {K : PySem.W.Frag} {ca : Nat → Addr} {G : Hp} {p : Addr} {vs : List V} {xs : List D} (gp : G p = none) (h : RL K ca G vs xs) : R K ca (upd G p (.tup vs)) (.ref p) (.tup xs) :=
  .tup (.inl (.inl upd_same)) (h.mono fun a u z => by rw [upd_ne (ne_of_none z gp)]; exact z)
theorem R.newL {K : PySem.W.Frag} {ca : Nat → Addr} {G : Hp} {p : Addr} {vs : List V} {xs : List D} (gp : G p = none) (h : RL K ca G vs xs) : R K ca (upd G p (.lst vs)) (.ref p) (.lst xs) :=
  .lst (.inl (.inl upd_same)) (h.mono fun a u z => by rw [upd_ne (ne_of_none z gp)]; exact z)
/-! ### list + list, read -/
def rCatR (K : PySem.W.Frag) : R2 := fun x y H Q => ∃ l b xs zs, x = .ref l ∧ y = .ref b ∧ SqL K H l xs ∧ SqL K H b zs ∧ xs.length + zs.length ≤ sizeLine ∧ ∀ p, H p = none → Q (.ref p) (upd H p (.lst (xs ++ zs)))
theorem op_catR {X : Cx} : OpR X (binaryOp .Add) (rCatR X.K) := by
  intro pins s σ H x y v u Q I rx ry h
  obtain ⟨l, b, xs, zs, rfl, rfl, hH, hB, hz, q⟩ := h
  cases rx
  cases ry
  obtain ⟨its, r, ⟨⟨c1, d1, t1, sl1⟩, n, e, hc, _, hd⟩, _⟩ := I.list hH
  obtain ⟨its2, r2, ⟨⟨c2, d2, t2, sl2⟩, n2, e2, hc2, _, hd2⟩, _⟩ := I.list hB
  simp only at hc hd hc2 hd2
  subst hc hd hc2 hd2
  have hl := r.length
  have hl2 := r2.length
  refine concat_meets ⟨_, e, rfl⟩ ⟨_, e2, rfl⟩ noFill_list_add seq_list_add PySem.F.slot_list_add PySem.F.entry_list_add (PySem.F.args_list_add_2 _ _) (PyProof.Rows.list_addW l b its.toArray its2.toArray n n2 d1 d2 sl1 sl2 (by rw [List.size_toArray, List.size_toArray]; omega)) ⟨e, e2, ?_⟩
  have ea : its.toArray ++ its2.toArray = (its ++ its2).toArray := by simp
  rw [ea]
  exact ⟨.ref _, _, I.lnew (t' := s.toks) (r.append r2) (by rw [List.length_append]; omega), rfl, q _ I.fresh⟩
/-! ### arithmetic -/
def D.add : D → D → Res D
  | .int a, .int b => .ok (.int (a + b))
  | .str a, .str b => if a.length + b.length ≤ 100000 then .ok (.str (a ++ b)) else .bug
  | .lst a, .lst b => if a.length + b.length ≤ 100000 then .ok (.lst (a ++ b)) else .bug
  | .tup a, .tup b => if a.length + b.length ≤ 100000 then .ok (.tup (a ++ b)) else .bug
  | _, _ => .bug
def D.sub : D → D → Res D
  | .int a, .int b => .ok (.int (a - b))
  | _, _ => .bug
def D.mul : D → D → Res D
  | .int a, .int b => if a.natAbs.log2 + b.natAbs.log2 < 1000000 then .ok (.int (a * b)) else .bug
  | _, _ => .bug
def D.fdiv : D → D → Res D
  | .int a, .int b => if 0 < b ∧ b.natAbs.log2 < 9000 then .ok (.int (a / b)) else .bug
  | _, _ => .bug
def D.mod : D → D → Res D
  | .int a, .int b => if 0 < b then .ok (.int (a % b)) else .bug
  | _, _ => .bug
def D.pow : D → D → Res D
  | .int a, .int b => if 0 ≤ b ∧ b ≤ 1000 ∧ a.natAbs < 18446744073709551616 then .ok (.int (a ^ b.toNat)) else .bug
  | _, _ => .bug
def D.neg : D → Res D
  | .int a => .ok (.int (-a))
  | _ => .bug
/-- a list and a list, new -/
def D.cat : D → D → Res (List D)
  | .lst a, .lst b => if a.length + b.length ≤ 100000 then .ok (a ++ b) else .bug
  | _, _ => .bug
@[simp] theorem add_int (a b : Int) : D.add (.int a) (.int b) = .ok (.int (a + b)) := rfl
@[simp] theorem sub_int (a b : Int) : D.sub (.int a) (.int b) = .ok (.int (a - b)) := rfl
@[simp] theorem neg_int (a : Int) : D.neg (.int a) = .ok (.int (-a)) := rfl
theorem mul_int' {a b : Int} (h : a.natAbs.log2 + b.natAbs.log2 < 1000000) : D.mul (.int a) (.int b) = .ok (.int (a * b)) := if_pos h
theorem fdiv_int {a b : Int} (h : 0 < b) (h2 : b.natAbs.log2 < 9000) : D.fdiv (.int a) (.int b) = .ok (.int (a / b)) := if_pos ⟨h, h2⟩
theorem mod_int {a b : Int} (h : 0 < b) : D.mod (.int a) (.int b) = .ok (.int (a % b)) := if_pos h
theorem log2_small {n k : Nat} (h : n < 2 ^ k) (hk : 0 < k) : n.log2 < k := PySem.Flt.log2_lt_of hk h
section
variable {K : PySem.W.Frag} {ca : Nat → Addr} {X : Cx}
/-- the shape of a lift that changes no heap: fin -/
theorem fin2 {f : D → D → Res D} {Hb G H : Hp} {x y : D} {Q : VK} {z : D} {v : V} (s : Same G H) (h : ∀ z G' H', f x y = .ok z → Gb Hb G H G' H' → ∀ v', R K ca G' v' z → Q v' H') (e : f x y = .ok z) (r : R K ca G v z) : Q v H := h z G H e (.refl s) v r
theorem l_sub : Lift2 K ca (rI0 fun i j => .int (i - j)) D.sub := by
  intro Hb G H v w x y Q sb s rv rw' nb h
  cases x <;> try exact (nb rfl).elim
  cases y <;> try exact (nb rfl).elim
  cases rv; cases rw'
  exact ⟨_, _, rfl, rfl, fin2 s h rfl (.int _)⟩
theorem l_mul : Lift2 K ca (rI CMulW fun i j => .int (i * j)) D.mul := by
  intro Hb G H v w x y Q sb s rv rw' nb h
  cases x <;> try exact (nb rfl).elim
  cases y <;> try exact (nb rfl).elim
  cases rv; cases rw'
  rename_i a b
  by_cases hc : a.natAbs.log2 + b.natAbs.log2 < 1000000
  · exact ⟨_, _, rfl, rfl, hc, fin2 s h (if_pos hc) (.int _)⟩
  · exact (nb (if_neg hc)).elim
theorem l_fdiv : Lift2 K ca (rI CDivW fun i j => .int (i / j)) D.fdiv := by
  intro Hb G H v w x y Q sb s rv rw' nb h
  cases x <;> try exact (nb rfl).elim
  cases y <;> try exact (nb rfl).elim
  cases rv; cases rw'
  rename_i a b
  by_cases hc : 0 < b ∧ b.natAbs.log2 < 9000
  · exact ⟨_, _, rfl, rfl, hc, fin2 s h (if_pos hc) (.int _)⟩
  · exact (nb (if_neg hc)).elim
theorem l_mod : Lift2 K ca (rI (fun _ j => 0 < j) fun i j => .int (i % j)) D.mod := by
  intro Hb G H v w x y Q sb s rv rw' nb h
  cases x <;> try exact (nb rfl).elim
  cases y <;> try exact (nb rfl).elim
  cases rv; cases rw'
  rename_i a b
  by_cases hc : 0 < b
  · exact ⟨_, _, rfl, rfl, hc, fin2 s h (if_pos hc) (.int _)⟩
  · exact (nb (if_neg hc)).elim
theorem l_pow : Lift2 K ca (rI CPow fun i j => .int (i ^ j.toNat)) D.pow := by
  intro Hb G H v w x y Q sb s rv rw' nb h
  cases x <;> try exact (nb rfl).elim
  cases y <;> try exact (nb rfl).elim
  cases rv; cases rw'
  rename_i a b
  by_cases hc : 0 ≤ b ∧ b ≤ 1000 ∧ a.natAbs < 18446744073709551616
  · exact ⟨_, _, rfl, rfl, ⟨hc.1, by omega, by have := hc.2.2; omega⟩, fin2 s h (if_pos hc) (.int _)⟩
  · exact (nb (if_neg hc)).elim
theorem l_neg : Lift1 K ca (rU fun i => .int (-i)) D.neg := by
  intro Hb G H v x Q sb s rv nb h
  cases x <;> try exact (nb rfl).elim
  cases rv
  exact ⟨_, rfl, h _ _ _ rfl (.refl s) _ (.int _)⟩
/-- + of two ints, texts, lists, tuples -/
def rAddA (K : PySem.W.Frag) : R2 := fun x y H Q => (rI0 (fun i j => .int (i + j)) x y H Q ∨ ∃ i j, x = .str i ∧ y = .str j ∧ i.length + j.length ≤ sizeLine ∧ Q (.str (i ++ j)) H) ∨ (rCatR K x y H Q ∨ rCatA K x y H Q)
theorem op_addA : OpR X (binaryOp .Add) (rAddA X.K) := (op_add.or op_add_str).or (op_catR.or op_catA)
theorem l_add : Lift2 K ca (rAddA K) D.add := by
  intro Hb G H v w x y Q sb s rv rw' nb h
  cases x <;> try exact (nb rfl).elim
  · cases y <;> try exact (nb rfl).elim
    cases rv; cases rw'
    exact .inl (.inl ⟨_, _, rfl, rfl, fin2 s h rfl (.int _)⟩)
  · cases y <;> try exact (nb rfl).elim
    cases rv; cases rw'
    rename_i a b
    by_cases hc : a.length + b.length ≤ 100000
    · exact .inl (.inr ⟨_, _, rfl, rfl, sz' hc, fin2 s h (if_pos hc) (.str _)⟩)
    · exact (nb (if_neg hc)).elim
  · cases y <;> try exact (nb rfl).elim
    rename_i a b
    by_cases hc : a.length + b.length ≤ 100000
    · cases rv with
      | lst q1 q2 =>
        cases rw' with
        | lst p1 p2 =>
          refine .inr (.inl ⟨_, _, _, _, rfl, rfl, Same.sqL s q1, Same.sqL s p1, sz' (by rw [q2.length, p2.length]; exact hc), fun p hp => ?_⟩)
          exact h _ _ _ (if_pos hc) (Gb.alloc s sb hp) _ (R.newL (s.free hp) (q2.append p2))
    · exact (nb (if_neg hc)).elim
  · cases y <;> try exact (nb rfl).elim
    rename_i a b
    by_cases hc : a.length + b.length ≤ 100000
    · cases rv with
      | tup q1 q2 =>
        cases rw' with
        | tup p1 p2 =>
          have e : ∀ z, z = a ++ b → D.add (.tup a) (.tup b) = .ok (.tup z) := fun z hz => by rw [hz]; exact if_pos hc
          refine .inr (.inr ⟨_, _, _, _, rfl, rfl, Same.sqT s q1, Same.sqT s p1, sz' (by rw [q2.length, p2.length]; exact hc), fun hx => ?_, fun _ hy => ?_, fun _ _ p hp => ?_⟩)
          · have ha : a = [] := by
              have := q2.length
              rw [hx] at this
              cases a with
              | nil => rfl
              | cons _ _ => simp at this
            exact h _ _ _ (e b (by rw [ha]; rfl)) (.refl s) _ (.tup p1 p2)
          · have hb : b = [] := by
              have := p2.length
              rw [hy] at this
              cases b with
              | nil => rfl
              | cons _ _ => simp at this
            exact h _ _ _ (e a (by rw [hb, List.append_nil])) (.refl s) _ (.tup q1 q2)
          · exact h _ _ _ (e _ rfl) (Gb.alloc s sb hp) _ (R.newT (s.free hp) (q2.append p2))
    · exact (nb (if_neg hc)).elim
theorem l_cat : Lift2L K ca (rCatR K) D.cat := by
  intro G H v w x y Q s rv rw' nb h
  cases x <;> try exact (nb rfl).elim
  cases y <;> try exact (nb rfl).elim
  rename_i a b
  by_cases hc : a.length + b.length ≤ 100000
  · cases rv with
    | lst q1 q2 =>
      cases rw' with
      | lst p1 p2 => exact ⟨_, _, _, _, rfl, rfl, Same.sqL s q1, Same.sqL s p1, sz' (by rw [q2.length, p2.length]; exact hc), fun p hp => h _ p _ (if_pos hc) hp (q2.append p2)⟩
  · exact (nb (if_neg hc)).elim
/-! ### comparisons -/
mutual
def D.eqv : D → D → Bool
  | .non, .non => true
  | .bl a, .bl b => a == b
  | .bl a, .int j => (if a then 1 else 0) == j
  | .int i, .bl b => i == (if b then 1 else 0)
  | .int i, .int j => i == j
  | .str x, .str y => x == y
  | .lst xs, .lst ys => D.eqvL xs ys
  | .tup xs, .tup ys => D.eqvL xs ys
  | _, _ => false
def D.eqvL : List D → List D → Bool
  | [], [] => true
  | x :: xs, y :: ys => D.eqv x y && D.eqvL xs ys
  | _, _ => false
end
mutual
def D.py : D → PyData
  | .non => .none
  | .bl b => .bool b
  | .int i => .int i
  | .str x => .str x
  | .lst xs => .list (D.pyL xs)
  | .tup xs => .tuple (D.pyL xs)
  | .ins _ _ => .none
def D.pyL : List D → List PyData
  | [] => []
  | x :: xs => D.py x :: D.pyL xs
end
/-- plain data of a depth below n -/
def D.fit : Nat → D → Bool
  | _, .non => true
  | _, .bl _ => true
  | _, .int _ => true
  | _, .str x => PyData.strOk x
  | n + 1, .lst xs => xs.all (D.fit n)
  | n + 1, .tup xs => xs.all (D.fit n)
  | _, _ => false
theorem eqvAll_nil {ys : List PyData} : PyData.eqvAll [] ys = ys.isEmpty := by cases ys <;> simp [PyData.eqvAll]
mutual
theorem eqv_py : ∀ {n m : Nat} {x y : D}, D.fit n x = true → D.fit m y = true → PyData.eqv x.py y.py = D.eqv x y
  | n, m, .non, y, h1, h2 => by cases y <;> first | (cases m <;> simp [D.fit] at h2; done) | rfl | (simp [D.py, PyData.eqv, D.eqv])
  | n, m, .bl _, y, h1, h2 => by cases y <;> first | (cases m <;> simp [D.fit] at h2; done) | rfl | (simp [D.py, PyData.eqv, D.eqv])
  | n, m, .int _, y, h1, h2 => by cases y <;> first | (cases m <;> simp [D.fit] at h2; done) | rfl | (simp [D.py, PyData.eqv, D.eqv])
  | n, m, .str _, y, h1, h2 => by cases y <;> first | (cases m <;> simp [D.fit] at h2; done) | rfl | (simp [D.py, PyData.eqv, D.eqv])
  | n, m, .lst xs, .lst ys, h1, h2 => by
    cases n with
    | zero => simp [D.fit] at h1
    | succ n =>
      cases m with
      | zero => simp [D.fit] at h2
      | succ m =>
        simp only [D.py, PyData.eqv, D.eqv]
        exact eqvL_py (n := n) (m := m) (by simpa [D.fit] using h1) (by simpa [D.fit] using h2)
  | n, m, .tup xs, .tup ys, h1, h2 => by
    cases n with
    | zero => simp [D.fit] at h1
    | succ n =>
      cases m with
      | zero => simp [D.fit] at h2
      | succ m =>
        simp only [D.py, PyData.eqv, D.eqv]
        exact eqvL_py (n := n) (m := m) (by simpa [D.fit] using h1) (by simpa [D.fit] using h2)
  | n, m, .lst xs, .non, h1, h2 => by simp [D.py, PyData.eqv, D.eqv]
  | n, m, .lst xs, .bl _, h1, h2 => by simp [D.py, PyData.eqv, D.eqv]
  | n, m, .lst xs, .int _, h1, h2 => by simp [D.py, PyData.eqv, D.eqv]
  | n, m, .lst xs, .str _, h1, h2 => by simp [D.py, PyData.eqv, D.eqv]
  | n, m, .lst xs, .tup _, h1, h2 => by simp [D.py, PyData.eqv, D.eqv]
  | n, m, .lst xs, .ins _ _, h1, h2 => by cases m <;> simp [D.fit] at h2
  | n, m, .tup xs, .non, h1, h2 => by simp [D.py, PyData.eqv, D.eqv]
  | n, m, .tup xs, .bl _, h1, h2 => by simp [D.py, PyData.eqv, D.eqv]
  | n, m, .tup xs, .int _, h1, h2 => by simp [D.py, PyData.eqv, D.eqv]
  | n, m, .tup xs, .str _, h1, h2 => by simp [D.py, PyData.eqv, D.eqv]
  | n, m, .tup xs, .lst _, h1, h2 => by simp [D.py, PyData.eqv, D.eqv]
  | n, m, .tup xs, .ins _ _, h1, h2 => by cases m <;> simp [D.fit] at h2
  | n, m, .ins _ _, y, h1, h2 => by cases n <;> simp [D.fit] at h1
theorem eqvL_py : ∀ {n m : Nat} {xs ys : List D}, (∀ x ∈ xs, D.fit n x = true) → (∀ y ∈ ys, D.fit m y = true) → PyData.eqvAll (D.pyL xs) (D.pyL ys) = D.eqvL xs ys
  | n, m, [], [], h1, h2 => by simp [D.pyL, PyData.eqvAll, D.eqvL]
  | n, m, [], y :: ys, h1, h2 => by simp [D.pyL, PyData.eqvAll, D.eqvL]
  | n, m, x :: xs, [], h1, h2 => by simp [D.pyL, PyData.eqvAll, D.eqvL]
  | n, m, x :: xs, y :: ys, h1, h2 => by
    simp only [D.pyL, PyData.eqvAll, D.eqvL]
    rw [eqv_py (h1 x List.mem_cons_self) (h2 y List.mem_cons_self), eqvL_py (fun z hz => h1 z (List.mem_cons_of_mem _ hz)) (fun z hz => h2 z (List.mem_cons_of_mem _ hz))]
end
mutual
theorem fit_lay : ∀ {n : Nat} {x : D}, D.fit n x = true → x.py.canLay0 = true ∧ x.py.depth ≤ n
  | n, .non, h => by simp [D.py, PyData.canLay0, PyData.depth]
  | n, .bl _, h => by simp [D.py, PyData.canLay0, PyData.depth]
  | n, .int _, h => by simp [D.py, PyData.canLay0, PyData.depth]
  | n, .str z, h => by
    have h' : PyData.strOk z = true := by cases n <;> simpa [D.fit] using h
    simp [D.py, PyData.canLay0, PyData.depth, h']
  | 0, .lst xs, h => by simp [D.fit] at h
  | n + 1, .lst xs, h => by
    have q := fitL_lay (n := n) (xs := xs) (by simpa [D.fit] using h)
    simp only [D.py, PyData.canLay0, PyData.depth]
    exact ⟨q.1, by have := q.2; omega⟩
  | 0, .tup xs, h => by simp [D.fit] at h
  | n + 1, .tup xs, h => by
    have q := fitL_lay (n := n) (xs := xs) (by simpa [D.fit] using h)
    simp only [D.py, PyData.canLay0, PyData.depth]
    exact ⟨q.1, by have := q.2; omega⟩
  | n, .ins _ _, h => by cases n <;> simp [D.fit] at h
theorem fitL_lay : ∀ {n : Nat} {xs : List D}, (∀ x ∈ xs, D.fit n x = true) → PyData.canLayAll0 (D.pyL xs) = true ∧ PyData.depthAll (D.pyL xs) ≤ n
  | n, [], h => by simp [D.pyL, PyData.canLayAll0, PyData.depthAll]
  | n, x :: xs, h => by
    have q1 := fit_lay (h x List.mem_cons_self)
    have q2 := fitL_lay (n := n) (xs := xs) fun z hz => h z (List.mem_cons_of_mem _ hz)
    simp only [D.pyL, PyData.canLayAll0, PyData.depthAll, q1.1, q2.1, Bool.and_self, true_and]
    have := q1.2
    have := q2.2
    omega
end
theorem fit_shaped {n : Nat} {x : D} (h : D.fit n x = true) (hn : n ≤ 64) : SeqAt.shaped x.py = true := by
  have q := fit_lay h
  unfold SeqAt.shaped
  rw [q.1, Bool.true_and]
  exact decide_eq_true (by omega)
mutual
theorem R.dp {G H : Hp} (s : Same G H) : ∀ {n : Nat} {x : D} {v : V}, D.fit n x = true → R K ca G v x → Dp K H v x.py
  | n, .non, _, h, r => by cases r; exact .non
  | n, .bl _, _, h, r => by cases r; exact .bl _
  | n, .int _, _, h, r => by cases r; exact .int _
  | n, .str _, _, h, r => by cases r; exact .str _
  | 0, .lst xs, _, h, r => by simp [D.fit] at h
  | n + 1, .lst xs, _, h, r => by
    cases r with
    | lst q1 q2 => exact .lst (Same.sqL s q1) (RL.dp s (n := n) (by simpa [D.fit] using h) q2)
  | 0, .tup xs, _, h, r => by simp [D.fit] at h
  | n + 1, .tup xs, _, h, r => by
    cases r with
    | tup q1 q2 => exact .tup (Same.sqT s q1) (RL.dp s (n := n) (by simpa [D.fit] using h) q2)
  | n, .ins _ _, _, h, r => by cases n <;> simp [D.fit] at h
theorem RL.dp {G H : Hp} (s : Same G H) : ∀ {n : Nat} {xs : List D} {vs : List V}, (∀ x ∈ xs, D.fit n x = true) → RL K ca G vs xs → DpAll K H vs (D.pyL xs)
  | n, [], _, h, r => by cases r; exact .nil
  | n, x :: xs, _, h, r => by
    cases r with
    | cons r1 r2 => exact .cons (R.dp s (h x List.mem_cons_self) r1) (RL.dp s (fun z hz => h z (List.mem_cons_of_mem _ hz)) r2)
end
/-- two scalars -/
def D.scal : D → D → Bool
  | .non, .non => true | .non, .int _ => true | .int _, .non => true | .non, .bl _ => true | .bl _, .non => true | .non, .str _ => true | .str _, .non => true
  | .int _, .int _ => true | .bl _, .bl _ => true | .str _, .str _ => true
  | .int _, .str _ => true | .str _, .int _ => true | .bl _, .str _ => true | .str _, .bl _ => true
  | _, _ => false
/-- == -/
def D.eqB (x y : D) : Res Bool := if (D.scal x y || (D.fit 20 x && D.fit 20 y)) = true then .ok (D.eqv x y) else .bug
def D.eq (x y : D) : Res D := D.eqB x y >>= fun b => .ok (.bl b)
def D.ne (x y : D) : Res D := D.eqB x y >>= fun b => .ok (.bl (!b))
@[simp] theorem eqB_int (a b : Int) : D.eqB (.int a) (.int b) = .ok (a == b) := rfl
@[simp] theorem eqB_str (a b : Str) : D.eqB (.str a) (.str b) = .ok (a == b) := rfl
@[simp] theorem eqB_bl (a b : Bool) : D.eqB (.bl a) (.bl b) = .ok (a == b) := rfl
@[simp] theorem eq_int (a b : Int) : D.eq (.int a) (.int b) = .ok (.bl (a == b)) := rfl
@[simp] theorem ne_int (a b : Int) : D.ne (.int a) (.int b) = .ok (.bl (!(a == b))) := rfl
@[simp] theorem eq_str (a b : Str) : D.eq (.str a) (.str b) = .ok (.bl (a == b)) := rfl
@[simp] theorem ne_str (a b : Str) : D.ne (.str a) (.str b) = .ok (.bl (!(a == b))) := rfl
@[simp] theorem eq_bl (a b : Bool) : D.eq (.bl a) (.bl b) = .ok (.bl (a == b)) := rfl
@[simp] theorem ne_bl (a b : Bool) : D.ne (.bl a) (.bl b) = .ok (.bl (!(a == b))) := rfl
theorem scal_of {G : Hp} {x y : D} {v w : V} (h : D.scal x y = true) (rv : R K ca G v x) (rw' : R K ca G w y) : L2.scal v w = true ∧ decide (v = w) = D.eqv x y := by
  cases rv <;> cases rw' <;> first
    | (simp [D.scal] at h; done)
    | (refine ⟨rfl, ?_⟩; simp [D.eqv]; done)
    | (refine ⟨rfl, ?_⟩; simp [D.eqv]; exact (Bool.beq_eq_decide_eq _ _).symm)
def rEqA (K : PySem.W.Frag) : R2 := fun x y H Q => rEq x y H Q ∨ rEqD K x y H Q
def rNeA (K : PySem.W.Frag) : R2 := fun x y H Q => rNe x y H Q ∨ rNeD K x y H Q
theorem op_eqA (hu : X.A.units + 64 < cLine) : OpR X (compareOp .Eq) (rEqA X.K) := op_eq.or (op_eqD hu)
theorem op_neA (hu : X.A.units + 64 < cLine) : OpR X (compareOp .NotEq) (rNeA X.K) := op_ne.or (op_neD hu)
theorem eqB_ne_bug {x y : D} {k : Bool → Res D} (nb : (D.eqB x y >>= k) ≠ .bug) : (D.scal x y = true ∨ (D.fit 20 x = true ∧ D.fit 20 y = true)) ∧ D.eqB x y = .ok (D.eqv x y) := by
  by_cases hc : (D.scal x y || (D.fit 20 x && D.fit 20 y)) = true
  · refine ⟨?_, if_pos hc⟩
    rcases Bool.or_eq_true_iff.mp hc with q | q
    · exact .inl q
    · exact .inr (Bool.and_eq_true_iff.mp q)
  · refine (nb ?_).elim
    unfold D.eqB
    rw [if_neg hc]
    rfl
theorem l_eq : Lift2 K ca (rEqA K) D.eq := by
  intro Hb G H v w x y Q sb s rv rw' nb h
  obtain ⟨hc, e⟩ := eqB_ne_bug nb
  have e2 : D.eq x y = .ok (.bl (D.eqv x y)) := by unfold D.eq; rw [e]; rfl
  rcases hc with hc | ⟨h1, h2⟩
  · obtain ⟨q1, q2⟩ := scal_of hc rv rw'
    refine .inl ⟨q1, ?_⟩
    rw [q2]
    exact h _ _ _ e2 (.refl s) _ (.bl _)
  · refine .inr ⟨_, _, R.dp s h1 rv, R.dp s h2 rw', fit_shaped h1 (by decide), fit_shaped h2 (by decide), ?_⟩
    rw [eqv_py h1 h2]
    exact h _ _ _ e2 (.refl s) _ (.bl _)
theorem l_ne : Lift2 K ca (rNeA K) D.ne := by
  intro Hb G H v w x y Q sb s rv rw' nb h
  obtain ⟨hc, e⟩ := eqB_ne_bug nb
  have e2 : D.ne x y = .ok (.bl (!D.eqv x y)) := by unfold D.ne; rw [e]; rfl
  rcases hc with hc | ⟨h1, h2⟩
  · obtain ⟨q1, q2⟩ := scal_of hc rv rw'
    refine .inl ⟨q1, ?_⟩
    rw [q2]
    exact h _ _ _ e2 (.refl s) _ (.bl _)
  · refine .inr ⟨_, _, R.dp s h1 rv, R.dp s h2 rw', fit_shaped h1 (by decide), fit_shaped h2 (by decide), ?_⟩
    rw [eqv_py h1 h2]
    exact h _ _ _ e2 (.refl s) _ (.bl _)
/-- order of ints -/
def D.cmpI (p : Int → Int → Bool) : D → D → Res D
  | .int a, .int b => .ok (.bl (p a b))
  | _, _ => .bug
def D.lt : D → D → Res D := D.cmpI fun i j => decide (i < j)
def D.le : D → D → Res D := D.cmpI fun i j => decide (i ≤ j)
def D.gt : D → D → Res D := D.cmpI fun i j => decide (j < i)
def D.ge : D → D → Res D := D.cmpI fun i j => decide (j ≤ i)
@[simp] theorem lt_int' (a b : Int) : D.lt (.int a) (.int b) = .ok (.bl (decide (a < b))) := rfl
@[simp] theorem le_int' (a b : Int) : D.le (.int a) (.int b) = .ok (.bl (decide (a ≤ b))) := rfl
@[simp] theorem gt_int' (a b : Int) : D.gt (.int a) (.int b) = .ok (.bl (decide (b < a))) := rfl
@[simp] theorem ge_int' (a b : Int) : D.ge (.int a) (.int b) = .ok (.bl (decide (b ≤ a))) := rfl
theorem l_cmpI {p : Int → Int → Bool} : Lift2 K ca (rI0 fun i j => .bl (p i j)) (D.cmpI p) := by
  intro Hb G H v w x y Q sb s rv rw' nb h
  cases x <;> try exact (nb rfl).elim
  cases y <;> try exact (nb rfl).elim
  cases rv; cases rw'
  exact ⟨_, _, rfl, rfl, fin2 s h rfl (.bl _)⟩
/-- is None -/
def D.isN : D → D → Res D
  | .non, .non => .ok (.bl true)
  | _, .non => .ok (.bl false)
  | _, _ => .bug
def D.notN : D → D → Res D
  | .non, .non => .ok (.bl false)
  | _, .non => .ok (.bl true)
  | _, _ => .bug
theorem l_isN : Lift2 K ca (fun x y H Q => y = .non ∧ Q (.bl (decide (x = .non))) H) D.isN := by
  intro Hb G H v w x y Q sb s rv rw' nb h
  have hy : y = .non := by
    cases y <;> first | rfl | exact (nb (by cases x <;> rfl)).elim
  subst hy
  cases rw'
  refine ⟨rfl, ?_⟩
  cases rv <;> first
    | exact fin2 s h rfl (.bl _)
    | (rw [decide_eq_false (by intro z; cases z)]; exact fin2 s h rfl (.bl _))
    | (rw [decide_eq_true rfl]; exact fin2 s h rfl (.bl _))
theorem l_notN : Lift2 K ca (fun x y H Q => y = .non ∧ Q (.bl (!decide (x = .non))) H) D.notN := by
  intro Hb G H v w x y Q sb s rv rw' nb h
  have hy : y = .non := by
    cases y <;> first | rfl | exact (nb (by cases x <;> rfl)).elim
  subst hy
  cases rw'
  refine ⟨rfl, ?_⟩
  cases rv <;> first
    | exact fin2 s h rfl (.bl _)
    | (rw [decide_eq_false (by intro z; cases z)]; exact fin2 s h rfl (.bl _))
    | (rw [decide_eq_true rfl]; exact fin2 s h rfl (.bl _))
/-- in: a sign in a text, a flat thing in a list or tuple of such -/
def D.flat : D → Bool
  | .non => true | .bl _ => true | .int _ => true | .str _ => true | _ => false
def D.has (x : D) : D → Res Bool
  | .str z => match x with
    | .str ⟨⟨[c]⟩⟩ => .ok (decide (c ∈ z.cps.toList))
    | _ => .bug
  | .lst xs => if (D.flat x && xs.all D.flat) = true then .ok (xs.any fun y => D.eqv y x) else .bug
  | .tup xs => if (D.flat x && xs.all D.flat) = true then .ok (xs.any fun y => D.eqv y x) else .bug
  | _ => .bug
def D.isin (x y : D) : Res D := D.has x y >>= fun b => .ok (.bl b)
def D.notin (x y : D) : Res D := D.has x y >>= fun b => .ok (.bl (!b))
theorem flat_of {G : Hp} {x : D} {v : V} (h : D.flat x = true) (r : R K ca G v x) : flatV v = true := by cases r <;> first | rfl | (simp [D.flat] at h)
theorem flatL_of {G : Hp} : ∀ {xs : List D} {vs : List V}, xs.all D.flat = true → RL K ca G vs xs → vs.all flatV = true
  | [], _, h, r => by cases r; rfl
  | x :: xs, _, h, r => by
    cases r with
    | cons r1 r2 =>
      rw [List.all_cons, Bool.and_eq_true] at h ⊢
      exact ⟨flat_of h.1 r1, flatL_of h.2 r2⟩
theorem eqv_of {G : Hp} {x y : D} {v w : V} (hx : D.flat x = true) (hy : D.flat y = true) (rv : R K ca G v x) (rw' : R K ca G w y) : eqV v w = D.eqv x y := by
  cases rv <;> cases rw' <;> first | rfl | (simp [D.flat] at hx; done) | (simp [D.flat] at hy; done) | (simp [eqV, D.eqv]; done)
theorem inV_of {G : Hp} {x : D} {v : V} (hx : D.flat x = true) (rv : R K ca G v x) : ∀ {xs : List D} {vs : List V}, xs.all D.flat = true → RL K ca G vs xs → inV v vs = xs.any fun y => D.eqv y x
  | [], _, h, r => by cases r; rfl
  | y :: ys, _, h, r => by
    cases r with
    | cons r1 r2 =>
      rw [List.all_cons, Bool.and_eq_true] at h
      have ih := inV_of hx rv h.2 r2
      unfold inV at ih ⊢
      rw [List.any_cons, List.any_cons, ih, eqv_of h.1 hx r1 rv]
def rInA (K : PySem.W.Frag) (neg : Bool) : R2 := fun x y H Q => (∃ (c : Nat) (z : Str), x = .str ⟨#[c]⟩ ∧ y = .str z ∧ Q (.bl (if neg then !decide (c ∈ z.cps.toList) else decide (c ∈ z.cps.toList))) H) ∨ rIn K neg x y H Q
theorem op_inA : OpR X (compareOp .In) (rInA X.K false) := op_in_sign.or op_in_seq
theorem op_notinA : OpR X (compareOp .NotIn) (rInA X.K true) := op_notIn_sign.or op_notIn_seq
theorem l_inG {neg : Bool} {f : D → D → Res D} (hf : ∀ x y, f x y = (D.has x y >>= fun b => .ok (.bl (if neg then !b else b)))) : Lift2 K ca (rInA K neg) f := by
  intro Hb G H v w x y Q sb s rv rw' nb h
  rw [hf] at nb
  have key : ∀ b, D.has x y = .ok b → Q (.bl (if neg then !b else b)) H := fun b e => h _ _ _ (by rw [hf, e]; rfl) (.refl s) _ (.bl _)
  have nb' : D.has x y ≠ .bug := fun e => nb (by rw [e]; rfl)
  cases y with
  | str z =>
    cases rw'
    cases x with
    | str c =>
      cases rv
      obtain ⟨⟨l⟩⟩ := c
      match l, nb', key with
      | [c], nb', key => exact .inl ⟨c, z, rfl, rfl, key _ rfl⟩
      | [], nb', key => exact (nb' rfl).elim
      | _ :: _ :: _, nb', key => exact (nb' rfl).elim
    | _ => exact (nb' rfl).elim
  | lst xs =>
    by_cases hc : (D.flat x && xs.all D.flat) = true
    · have hc' := Bool.and_eq_true_iff.mp hc
      cases rw' with
      | lst q1 q2 =>
        refine .inr ⟨_, _, rfl, .inl (Same.sqL s q1), flat_of hc'.1 rv, flatL_of hc'.2 q2, ?_⟩
        rw [inV_of hc'.1 rv hc'.2 q2]
        exact key _ (if_pos hc)
    · exact (nb' (if_neg hc)).elim
  | tup xs =>
    by_cases hc : (D.flat x && xs.all D.flat) = true
    · have hc' := Bool.and_eq_true_iff.mp hc
      cases rw' with
      | tup q1 q2 =>
        refine .inr ⟨_, _, rfl, .inr (Same.sqT s q1), flat_of hc'.1 rv, flatL_of hc'.2 q2, ?_⟩
        rw [inV_of hc'.1 rv hc'.2 q2]
        exact key _ (if_pos hc)
    · exact (nb' (if_neg hc)).elim
  | _ => exact (nb' rfl).elim
theorem l_in : Lift2 K ca (rInA K false) D.isin := l_inG (f := D.isin) (neg := false) fun _ _ => rfl
theorem l_notin : Lift2 K ca (rInA K true) D.notin := l_inG (f := D.notin) (neg := true) fun _ _ => rfl
end
end Lk
namespace Lk
open PySem PySem.Spec PyProof.Rows L2
@[simp] theorem bind_assoc' {α β γ : Type} (m : Res α) (f : α → Res β) (g : β → Res γ) : ((m >>= f) >>= g) = (m >>= fun a => f a >>= g) := by cases m <;> rfl
theorem bind_ne {α β : Type} {m : Res α} {f : α → Res β} (h : (m >>= f) ≠ .bug) : m ≠ .bug := fun e => h (by rw [e]; rfl)
def Res.opt {α : Type} : Option α → Res α
  | some a => .ok a
  | none => .bug
@[simp] theorem opt_some {α : Type} (a : α) : Res.opt (some a) = .ok a := rfl
@[simp] theorem opt_none {α : Type} : Res.opt (none : Option α) = .bug := rfl
section
variable {K : PySem.W.Frag} {ca : Nat → Addr} {G G' H H' : Hp}
theorem RL.atI {ds : List D} {vs : List V} {i : Int} {d : D} (h : RL K ca G vs ds) (e : L2.atI ds i = some d) : ∃ v, L2.atI vs i = some v ∧ R K ca G v d := by
  unfold L2.atI at e ⊢
  rw [h.length]
  cases q : ixN ds.length i with
  | none => rw [q] at e; cases e
  | some j =>
    rw [q] at e
    exact h.get e
/-! ### subscripts -/
def D.item : D → D → Res D
  | .lst xs, .int i => Res.opt (L2.atI xs i)
  | .tup xs, .int i => Res.opt (L2.atI xs i)
  | .str s, .int i => if s.length ≤ 100000 then (match L2.atI s.cps.toList i with | some c => .ok (.str ⟨#[c]⟩) | none => .bug) else .bug
  | _, _ => .bug
theorem l_item : Lift2 K ca (rIx K) D.item := by
  intro Hb G H v w x y Q sb s rv rw' nb h
  have hy : ∃ i, y = .int i := by
    cases y with
    | int i => exact ⟨i, rfl⟩
    | _ => exact (nb (by cases x <;> rfl)).elim
  obtain ⟨i, rfl⟩ := hy
  cases rw'
  cases x with
  | str z =>
    cases rv
    by_cases hz : z.length ≤ 100000
    · cases e : L2.atI z.cps.toList i with
      | none => exact (nb (by simp only [D.item, if_pos hz, e])).elim
      | some c => exact .inr (.inr ⟨_, _, _, rfl, rfl, sz' hz, e, h _ _ _ (by simp only [D.item, if_pos hz, e]) (.refl s) _ (.str _)⟩)
    · exact (nb (if_neg hz)).elim
  | lst xs =>
    cases rv with
    | lst q1 q2 =>
      cases e : L2.atI xs i with
      | none => exact (nb (by simp only [D.item, e, opt_none])).elim
      | some d =>
        obtain ⟨v, e1, r1⟩ := q2.atI e
        exact .inl ⟨_, _, _, _, rfl, rfl, Same.sqL s q1, e1, h _ _ _ (by simp only [D.item, e, opt_some]) (.refl s) _ r1⟩
  | tup xs =>
    cases rv with
    | tup q1 q2 =>
      cases e : L2.atI xs i with
      | none => exact (nb (by simp only [D.item, e, opt_none])).elim
      | some d =>
        obtain ⟨v, e1, r1⟩ := q2.atI e
        exact .inr (.inl ⟨_, _, _, _, rfl, rfl, Same.sqT s q1, e1, h _ _ _ (by simp only [D.item, e, opt_some]) (.refl s) _ r1⟩)
  | _ => exact (nb rfl).elim
/-! ### slices -/
def cutD {α : Type} (xs : List α) (lo hi : Option Int) : List α := (xs.drop (HT.sIx xs.length 0 lo)).take (HT.sIx xs.length xs.length hi - HT.sIx xs.length 0 lo)
theorem RL.cut {ds : List D} {vs : List V} {lo hi : Option Int} (h : RL K ca G vs ds) : RL K ca G (cutV vs lo hi) (cutD ds lo hi) := by
  unfold cutV cutD
  rw [h.length]
  exact (h.drop _).take _
def D.slice (x : D) (lo hi : Option Int) : Res D := match x with
  | .lst xs => .ok (.lst (cutD xs lo hi))
  | .tup xs => .ok (.tup (cutD xs lo hi))
  | .str z => if z.length ≤ 100000 then .ok (.str (cutS z lo hi)) else .bug
  | _ => .bug
def D.sliceL (x : D) (lo hi : Option Int) : Res (List D) := match x with
  | .lst xs => .ok (cutD xs lo hi)
  | _ => .bug
end
section
variable {X : Cx} {ca : Nat → Addr} {W : WX} {ρ : Env} {a b c e o : Expr} {es : List Expr} {pos : Pos} {ma mb mc m : Res D} {mas : Res (List D)} {i : Nat}
theorem e_item (ha : PE X a (tD X.K ca W ρ ma)) (hb : PE X b (tD X.K ca W ρ mb)) (hs : PlainIx b := by intro _ _; rfl) : PE X (.Subscript a b pos) (tD X.K ca W ρ (ma >>= fun x => mb >>= fun y => D.item x y)) :=
  PE.of (pe_ix ix_seq ha hb hs) fun σ H Q ⟨Hb, G, h⟩ => ⟨Hb, G, h.cut fun x G1 H1 _ g1 h1 v rv => ⟨Hb, G1, h1.cut fun y G2 H2 _ g2 h2 w rw' =>
    l_item h2.sb h2.sub (rv.mono g2.g) rw' h2.nb fun z G' H' ez g' v' r' => h2.ok z ez G' H' g' v' r'⟩⟩
def D.toI : D → Res (Option Int)
  | .int i => .ok (some i)
  | _ => .bug
@[simp] theorem toI_int (i : Int) : D.toI (.int i) = .ok (some i) := rfl
theorem p_none : PO X none (tPart' X.K ca W ρ (.ok none)) := ⟨fun pins s σ H Q I h => po_none.run pins s σ H Q I (let ⟨Hb, G, h⟩ := h; h.done)⟩
theorem p_some (ha : PE X e (tD X.K ca W ρ ma)) : PO X (some e) (tPart' X.K ca W ρ (ma >>= D.toI)) := ⟨fun pins s σ H Q I h => (po_some ha).run pins s σ H Q I (let ⟨Hb, G, h⟩ := h; ⟨Hb, G, h.cut fun x G1 H1 _ g1 h1 v rv => by
  cases x with
  | int k =>
    cases rv
    exact ⟨k, rfl, h1.done⟩
  | _ => exact (h1.nb rfl).elim⟩)⟩
variable {lo hi : Option Expr} {ml mh : Res (Option Int)} {p2 : Pos}
theorem e_slice (ha : PE X e (tD X.K ca W ρ ma)) (hl : PO X lo (tPart' X.K ca W ρ ml)) (hh : PO X hi (tPart' X.K ca W ρ mh)) : PE X (.Subscript e (.Slice lo hi none p2) pos) (tD X.K ca W ρ (ma >>= fun x => ml >>= fun l => mh >>= fun h => D.slice x l h)) :=
  PE.of (pe_slice (sl_list.or (sl_tupA.or sl_str)) ha hl hh) fun σ H Q ⟨Hb, G, h⟩ => ⟨Hb, G, h.cut fun x G1 H1 _ g1 h1 v rv => ⟨Hb, G1, h1.cut fun l G2 H2 _ g2 h2 => ⟨Hb, G2, h2.cut fun u G3 H3 _ g3 h3 => by
    have rv3 := rv.mono (g2.g.trans g3.g)
    cases x with
    | lst xs =>
      cases rv3 with
      | lst q1 q2 => exact .inl ⟨_, _, rfl, Same.sqL h3.sub q1, fun p hp => h3.go (Gb.alloc h3.sub h3.sb hp) _ (R.newL (h3.sub.free hp) q2.cut)⟩
    | tup xs =>
      cases rv3 with
      | tup q1 q2 =>
        refine .inr (.inl ⟨_, _, rfl, Same.sqT h3.sub q1, fun hw => ?_, fun _ p hp => h3.go (Gb.alloc h3.sub h3.sb hp) _ (R.newT (h3.sub.free hp) q2.cut)⟩)
        have ew : cutD xs l u = xs := by
          unfold cutD
          rw [← q2.length, hw.1, hw.2, List.drop_zero, q2.length, Nat.sub_zero, List.take_length]
        refine h3.done _ ?_
        rw [ew]
        exact .tup q1 q2
    | str z =>
      cases rv3
      by_cases hz : z.length ≤ 100000
      · exact .inr (.inr ⟨_, rfl, sz' hz, h3.ok _ (if_pos hz) _ _ (.refl h3.sub) _ (.str _)⟩)
      · exact (h3.nb (if_neg hz)).elim
    | _ => exact (h3.nb rfl).elim⟩⟩⟩
theorem e_sliceL (ha : PE X e (tD X.K ca W ρ ma)) (hl : PO X lo (tPart' X.K ca W ρ ml)) (hh : PO X hi (tPart' X.K ca W ρ mh)) : PE X (.Subscript e (.Slice lo hi none p2) pos) (tL X.K ca W ρ (ma >>= fun x => ml >>= fun l => mh >>= fun h => D.sliceL x l h)) :=
  PE.of (pe_slice sl_list ha hl hh) fun σ H Q ⟨Hb, G, h⟩ => ⟨Hb, G, h.cut fun x G1 H1 _ g1 h1 v rv => ⟨Hb, G1, h1.cut fun l G2 H2 _ g2 h2 => ⟨Hb, G2, h2.cut fun u G3 H3 _ g3 h3 => by
    have rv3 := rv.mono (g2.g.trans g3.g)
    cases x with
    | lst xs =>
      cases rv3 with
      | lst q1 q2 => exact ⟨_, _, rfl, Same.sqL h3.sub q1, fun p hp => h3.go (Gb.own h3.sub hp) p _ (h3.sb.free hp) (h3.sub.free hp) upd_same q2.cut⟩
    | _ => exact (h3.nb rfl).elim⟩⟩⟩
/-! ### attributes of what never changes -/
def D.attr (cs : List Nat) (f : Str) : D → Res D
  | .ins c fs => if cs.contains c = true then Res.opt (fs.lookup f) else .bug
  | _ => .bug
theorem RF.lookup {K : PySem.W.Frag} {G : Hp} {f : Str} {d : D} : ∀ {fs : List (Str × D)} {vs : List (Str × V)}, RF K ca G vs fs → fs.lookup f = some d → ∃ v, vs.lookup f = some v ∧ R K ca G v d
  | [], _, h, e => by simp [List.lookup] at e
  | (n, d0) :: fs, _, h, e => by
    cases h with
    | cons h1 h2 =>
      by_cases hn : (f == n) = true
      · rw [List.lookup_cons, hn] at e
        have e' : d0 = d := Option.some.inj e
        subst e'
        exact ⟨_, by rw [List.lookup_cons, hn], h1⟩
      · have hn' : (f == n) = false := by simpa using hn
        rw [List.lookup_cons, hn'] at e
        obtain ⟨v, q1, q2⟩ := RF.lookup h2 e
        exact ⟨v, by rw [List.lookup_cons, hn']; exact q1, q2⟩
theorem e_attr {cs : List Nat} {f : Str} (ha : PE X e (tD X.K ca W ρ ma)) (T : ∀ c, cs.contains c = true → Cls X.K (ca c) ∧ NoAttr X.K (ca c) f) (hb : attributeBase e f X.env (eval e X.env) = eval e X.env := by rfl) :
    PE X (.Attribute e f pos) (tD X.K ca W ρ (ma >>= fun x => D.attr cs f x)) :=
  PE.of (pe_fld ha hb) fun σ H Q ⟨Hb, G, h⟩ => ⟨Hb, G, h.cut fun x G1 H1 _ g1 h1 v rv => by
    cases x with
    | ins c fs =>
      by_cases hc : cs.contains c = true
      · cases rv with
        | ins q1 q2 =>
          cases e : fs.lookup f with
          | none => exact (h1.nb (by simp only [D.attr, if_pos hc, e, opt_none])).elim
          | some d =>
            obtain ⟨w, e1, r1⟩ := q2.lookup e
            exact ⟨_, _, _, _, w, rfl, h1.sub _ _ q1, (T c hc).1, (T c hc).2, e1, h1.ok d (by simp only [D.attr, if_pos hc, e, opt_some]) _ _ (.refl h1.sub) w r1⟩
      · exact (h1.nb (if_neg hc)).elim
    | _ => exact (h1.nb rfl).elim⟩
/-! ### built-ins -/
def D.len : List D → Res D
  | [.str z] => if z.length ≤ 100000 then .ok (.int z.length) else .bug
  | [.lst xs] => .ok (.int xs.length)
  | [.tup xs] => .ok (.int xs.length)
  | _ => .bug
@[simp] theorem len_lst (xs : List D) : D.len [.lst xs] = .ok (.int xs.length) := rfl
@[simp] theorem len_tup (xs : List D) : D.len [.tup xs] = .ok (.int xs.length) := rfl
def one {α : Type} (f : D → Res α) : List D → Res α
  | [x] => f x
  | _ => .bug
theorem RL.one {K : PySem.W.Frag} {G : Hp} {α : Type} {f : D → Res α} {xs : List D} {vs : List V} (nb : one f xs ≠ .bug) (h : RL K ca G vs xs) : ∃ x v, xs = [x] ∧ vs = [v] ∧ R K ca G v x := by
  match xs, nb with
  | [x], _ =>
    cases h with
    | cons h1 h2 =>
      cases h2
      exact ⟨x, _, rfl, rfl, h1⟩
  | [], nb => exact (nb rfl).elim
  | _ :: _ :: _, nb => exact (nb rfl).elim
theorem l_len {K : PySem.W.Frag} : LiftA K ca (fun xs H Q => ∃ x n, xs = [x] ∧ LenV K x H n ∧ Q (.int n) H) D.len := by
  intro Hb G H vs xs Q sb s r nb h
  match xs, nb, h with
  | [.str z], nb, h =>
    cases r with
    | cons r1 r2 =>
      cases r2; cases r1
      by_cases hz : z.length ≤ 100000
      · exact ⟨_, _, rfl, ⟨sz' hz, rfl⟩, h _ _ _ (if_pos hz) (.refl s) _ (.int _)⟩
      · exact (nb (if_neg hz)).elim
  | [.lst ys], nb, h =>
    cases r with
    | cons r1 r2 =>
      cases r2
      cases r1 with
      | lst q1 q2 => exact ⟨_, _, rfl, .inl ⟨_, Same.sqL s q1, rfl⟩, by rw [q2.length]; exact h _ _ _ rfl (.refl s) _ (.int _)⟩
  | [.tup ys], nb, h =>
    cases r with
    | cons r1 r2 =>
      cases r2
      cases r1 with
      | tup q1 q2 => exact ⟨_, _, rfl, .inr ⟨_, Same.sqT s q1, rfl⟩, by rw [q2.length]; exact h _ _ _ rfl (.refl s) _ (.int _)⟩
  | [], nb, h => exact (nb rfl).elim
  | .non :: _, nb, h => exact (nb rfl).elim
  | .bl _ :: _, nb, h => exact (nb rfl).elim
  | .int _ :: _, nb, h => exact (nb rfl).elim
  | .ins _ _ :: _, nb, h => exact (nb rfl).elim
  | .str _ :: _ :: _, nb, h => exact (nb rfl).elim
  | .lst _ :: _ :: _, nb, h => exact (nb rfl).elim
  | .tup _ :: _ :: _, nb, h => exact (nb rfl).elim
def two' {α : Type} (f : Int → Int → Res α) : List D → Res α
  | [.int a, .int b] => f a b
  | _ => .bug
@[simp] theorem two'_eq {α : Type} (f : Int → Int → Res α) (a b : Int) : two' f [.int a, .int b] = f a b := rfl
theorem RL.two' {K : PySem.W.Frag} {G : Hp} {α : Type} {f : Int → Int → Res α} {xs : List D} {vs : List V} (nb : two' f xs ≠ .bug) (h : RL K ca G vs xs) : ∃ a b, xs = [.int a, .int b] ∧ vs = [.int a, .int b] := by
  match xs, nb with
  | [.int a, .int b], _ =>
    cases h with
    | cons h1 h2 =>
      cases h2 with
      | cons h2 h3 =>
        cases h3; cases h1; cases h2
        exact ⟨a, b, rfl, rfl⟩
  | [], nb => exact (nb rfl).elim
  | [x], nb => cases x <;> exact (nb rfl).elim
  | [x, y], nb => cases x <;> first | exact (nb rfl).elim | (cases y <;> first | exact (nb rfl).elim | (cases h with | cons h1 h2 => cases h2 with | cons h2 h3 => cases h3; cases h1; cases h2; exact ⟨_, _, rfl, rfl⟩))
  | x :: y :: _ :: _, nb => cases x <;> first | exact (nb rfl).elim | (cases y <;> exact (nb rfl).elim)
def D.max2 : List D → Res D := Lk.two' fun a b => .ok (.int (if b > a then b else a))
def D.min2 : List D → Res D := Lk.two' fun a b => .ok (.int (if b < a then b else a))
@[simp] theorem max2_int (a b : Int) : D.max2 [.int a, .int b] = .ok (.int (if b > a then b else a)) := rfl
@[simp] theorem min2_int (a b : Int) : D.min2 [.int a, .int b] = .ok (.int (if b < a then b else a)) := rfl
theorem l_max2 {K : PySem.W.Frag} : LiftA K ca (fun xs H Q => ∃ i j, xs = [.int i, .int j] ∧ Q (.int (if j > i then j else i)) H) D.max2 := by
  intro Hb G H vs xs Q sb s r nb h
  obtain ⟨a, b, rfl, rfl⟩ := RL.two' nb r
  exact ⟨_, _, rfl, h _ _ _ rfl (.refl s) _ (.int _)⟩
theorem l_min2 {K : PySem.W.Frag} : LiftA K ca (fun xs H Q => ∃ i j, xs = [.int i, .int j] ∧ Q (.int (if j < i then j else i)) H) D.min2 := by
  intro Hb G H vs xs Q sb s r nb h
  obtain ⟨a, b, rfl, rfl⟩ := RL.two' nb r
  exact ⟨_, _, rfl, h _ _ _ rfl (.refl s) _ (.int _)⟩
/-- the ints of a list -/
def D.ints : List D → Option (List Int)
  | [] => some []
  | .int i :: r => (D.ints r).map (i :: ·)
  | _ :: _ => none
@[simp] theorem ints_map : ∀ (ns : List Int), D.ints (ns.map D.int) = some ns
  | [] => rfl
  | n :: ns => by simp [D.ints, ints_map ns]
theorem ints_inv : ∀ {xs : List D} {ns : List Int}, D.ints xs = some ns → xs = ns.map D.int
  | [], _, h => by cases h; rfl
  | .int i :: r, ns, h => by
    simp only [D.ints, Option.map_eq_some_iff] at h
    obtain ⟨ms, h1, rfl⟩ := h
    rw [ints_inv h1]; rfl
  | .non :: _, _, h => by simp [D.ints] at h
  | .bl _ :: _, _, h => by simp [D.ints] at h
  | .str _ :: _, _, h => by simp [D.ints] at h
  | .lst _ :: _, _, h => by simp [D.ints] at h
  | .tup _ :: _, _, h => by simp [D.ints] at h
  | .ins _ _ :: _, _, h => by simp [D.ints] at h
def D.sum : List D → Res D := one fun
  | .lst xs => (match D.ints xs with | some ns => .ok (.int ns.sum) | none => .bug)
  | _ => .bug
@[simp] theorem sum_ints (ns : List Int) : D.sum [.lst (ns.map D.int)] = .ok (.int ns.sum) := by simp [D.sum, one]
theorem l_sum {K : PySem.W.Frag} : LiftA K ca (rSum K) D.sum := by
  intro Hb G H vs xs Q sb s r nb h
  obtain ⟨x, v, rfl, rfl, r1⟩ := RL.one nb r
  cases x <;> try exact (nb rfl).elim
  rename_i ys
  cases e : D.ints ys with
  | none => exact (nb (by simp [D.sum, one, e])).elim
  | some ns =>
    have e' := ints_inv e
    subst e'
    cases r1 with
    | lst q1 q2 =>
      have e2 := q2.ints_inv
      subst e2
      exact ⟨_, ns, rfl, Same.sqL s q1, h _ _ _ (sum_ints ns) (.refl s) _ (.int _)⟩
def D.abs : List D → Res D := one fun
  | .int i => .ok (.int (if i < 0 then -i else i))
  | _ => .bug
def D.toInt : List D → Res D := one fun
  | .int i => .ok (.int i)
  | .bl b => .ok (.int (if b then 1 else 0))
  | .str z => if z.length ≤ 640 then (match PySem.intText? z with | some n => .ok (.int n) | none => .bug) else .bug
  | _ => .bug
theorem l_toInt {K : PySem.W.Frag} : LiftA K ca (fun xs H Q => ((∃ i, xs = [.int i] ∧ Q (.int i) H) ∨ ∃ k, xs = [.bl k] ∧ Q (.int (if k then 1 else 0)) H) ∨ ∃ a n, xs = [.str a] ∧ PySem.intText? a = some n ∧ a.length ≤ 640 ∧ Q (.int n) H) D.toInt := by
  intro Hb G H vs xs Q sb s r nb h
  obtain ⟨x, v, rfl, rfl, r1⟩ := RL.one nb r
  cases x <;> try exact (nb rfl).elim
  · cases r1; exact .inl (.inr ⟨_, rfl, h _ _ _ rfl (.refl s) _ (.int _)⟩)
  · cases r1; exact .inl (.inl ⟨_, rfl, h _ _ _ rfl (.refl s) _ (.int _)⟩)
  · rename_i z
    cases r1
    by_cases hz : z.length ≤ 640
    · cases e : PySem.intText? z with
      | none => exact (nb (by simp [D.toInt, one, hz, e])).elim
      | some n => exact .inr ⟨_, _, rfl, e, hz, h _ _ _ (by simp [D.toInt, one, hz, e]) (.refl s) _ (.int _)⟩
    · exact (nb (by simp [D.toInt, one, hz])).elim
theorem call_intA {X : Cx} : CallR X (.type "int") (fun xs H Q => ((∃ i, xs = [.int i] ∧ Q (.int i) H) ∨ ∃ k, xs = [.bl k] ∧ Q (.int (if k then 1 else 0)) H) ∨ ∃ a n, xs = [.str a] ∧ PySem.intText? a = some n ∧ a.length ≤ 640 ∧ Q (.int n) H) := call_int1.or call_int_str
def D.toStr : List D → Res D := one fun
  | .int i => if i.natAbs.log2 < 1920 then .ok (.str (toString i)) else .bug
  | _ => .bug
theorem l_toStr {K : PySem.W.Frag} : LiftA K ca (fun xs H Q => ∃ i, xs = [.int i] ∧ i.natAbs.log2 < 1920 ∧ Q (.str (toString i)) H) D.toStr := by
  intro Hb G H vs xs Q sb s r nb h
  obtain ⟨x, v, rfl, rfl, r1⟩ := RL.one nb r
  cases x <;> try exact (nb rfl).elim
  rename_i i
  cases r1
  by_cases hi : i.natAbs.log2 < 1920
  · exact ⟨_, rfl, hi, h _ _ _ (by simp [D.toStr, one, hi]) (.refl s) _ (.str _)⟩
  · exact (nb (by simp [D.toStr, one, hi])).elim
/-- list(x) -/
def D.toList : List D → Res (List D) := one fun
  | .lst xs => .ok xs
  | .tup xs => .ok xs
  | _ => .bug
@[simp] theorem toList_lst (xs : List D) : D.toList [.lst xs] = .ok xs := rfl
@[simp] theorem toList_tup (xs : List D) : D.toList [.tup xs] = .ok xs := rfl
theorem l_toList {K : PySem.W.Frag} : LiftAL K ca (fun xs H Q => ∃ p ys, xs = [.ref p] ∧ (SqL K H p ys ∨ SqT K H p ys) ∧ ∀ l, H l = none → Q (.ref l) (upd H l (.lst ys))) D.toList := by
  intro G H vs xs Q s r nb h
  obtain ⟨x, v, rfl, rfl, r1⟩ := RL.one nb r
  cases x <;> try exact (nb rfl).elim
  · cases r1 with
    | lst q1 q2 => exact ⟨_, _, rfl, .inl (Same.sqL s q1), fun l hl => h _ l _ rfl hl q2⟩
  · cases r1 with
    | tup q1 q2 => exact ⟨_, _, rfl, .inr (Same.sqT s q1), fun l hl => h _ l _ rfl hl q2⟩
def D.toTup : List D → Res D := one fun
  | .lst xs => .ok (.tup xs)
  | .tup xs => .ok (.tup xs)
  | _ => .bug
@[simp] theorem toTup_lst (xs : List D) : D.toTup [.lst xs] = .ok (.tup xs) := rfl
@[simp] theorem toTup_tup (xs : List D) : D.toTup [.tup xs] = .ok (.tup xs) := rfl
theorem l_toTup {K : PySem.W.Frag} : LiftA K ca (fun xs H Q => ∃ p ys, xs = [.ref p] ∧ ((SqL K H p ys ∧ ∀ l, H l = none → Q (.ref l) (upd H l (.tup ys))) ∨ (SqT K H p ys ∧ Q (.ref p) H))) D.toTup := by
  intro Hb G H vs xs Q sb s r nb h
  obtain ⟨x, v, rfl, rfl, r1⟩ := RL.one nb r
  cases x <;> try exact (nb rfl).elim
  · cases r1 with
    | lst q1 q2 => exact ⟨_, _, rfl, .inl ⟨Same.sqL s q1, fun l hl => h _ _ _ rfl (Gb.alloc s sb hl) _ (R.newT (s.free hl) q2)⟩⟩
  · cases r1 with
    | tup q1 q2 => exact ⟨_, _, rfl, .inr ⟨Same.sqT s q1, h _ _ _ rfl (.refl s) _ (.tup q1 q2)⟩⟩
/-- isinstance(x, T), T a built-in type -/
def D.isT (T : String) : D → Res D
  | .non => Res.opt ((kitB "NoneType" T).map D.bl)
  | .bl _ => Res.opt ((kitB "bool" T).map D.bl)
  | .int _ => Res.opt ((kitB "int" T).map D.bl)
  | .str _ => Res.opt ((kitB "str" T).map D.bl)
  | .lst _ => Res.opt ((kitB "list" T).map D.bl)
  | .tup _ => Res.opt ((kitB "tuple" T).map D.bl)
  | .ins _ _ => .bug
theorem e_isT {n1 n2 : Str} {p1 p2 : Pos} {T : String} (ha : PE X e (tD X.K ca W ρ ma)) (hg : Gl X n1) (hm : X.mg n1 = none) (hv : bootBuiltins n1 = some (.builtin "isinstance")) (hg2 : Gl X n2) (hm2 : X.mg n2 = none) (hv2 : bootBuiltins n2 = some (.type T))
    (hn : n1 ≠ "__name__" := by decide) (hdb : (n1 == ("__debug__" : Str)) = false := by decide) (hn2 : n2 ≠ "__name__" := by decide) (hdb2 : (n2 == ("__debug__" : Str)) = false := by decide)
    (he : starEach [e, .Name n2 p2] X.env = (false, eval e X.env) :: starEach [.Name n2 p2] X.env := by rfl) (hpl : (backTo pos (starEach [.Name n2 p2] X.env)).any (·.1) = false := by rfl) (hs2 : starEach [.Name n2 p2] X.env = (false, eval (.Name n2 p2) X.env) :: starEach [] X.env := by rfl) :
    PE X (.Call (.Name n1 p1) [e, .Name n2 p2] [] pos) (tD X.K ca W ρ (ma >>= fun x => D.isT T x)) :=
  PE.of (pe_callB call_isi hg hm hv (pa_cons ha (pa_cons (pe_bltn (v := .ty T) hg2 hm2 hv2 rfl hn2 hdb2) pa_nil hs2) he) hn hdb he hpl) fun σ H Q ⟨Hb, G, h⟩ => ⟨Hb, G, h.cut fun x G1 H1 _ g1 h1 v rv => by
    have go : ∀ (t : String) (b : Bool), TyX X.K H1 v (.type t) → kitB t T = some b → Q (.bl b) H1 → rIsi X.K [v, .ty T] H1 Q := fun t b ty e q => ⟨v, .ty T, .type t, .type T, b, rfl, .ty T, ty, kit_ty e, q⟩
    have fin : ∀ (t : String), TyX X.K H1 v (.type t) → D.isT T x = Res.opt ((kitB t T).map D.bl) → rIsi X.K [v, .ty T] H1 Q := fun t ty ex => by
      cases e : kitB t T with
      | none => exact (h1.nb (by rw [ex, e]; rfl)).elim
      | some b => exact go t b ty e (h1.ok (.bl b) (by rw [ex, e]; rfl) _ _ (.refl h1.sub) _ (.bl b))
    cases x with
    | non => cases rv; exact fin _ (.base .non) rfl
    | bl b => cases rv; exact fin _ (.base (.bl b)) rfl
    | int i => cases rv; exact fin _ (.base (.int i)) rfl
    | str z => cases rv; exact fin _ (.base (.str z)) rfl
    | lst xs =>
      cases rv with
      | lst q1 q2 =>
        rcases Same.sqL h1.sub q1 with (z | ⟨o, z⟩) | ⟨o, its, n, z, zc, _⟩
        · exact fin _ (.base (.lst z)) rfl
        · exact fin _ (.base (.frz z)) rfl
        · exact fin _ (.kList z zc) rfl
    | tup xs =>
      cases rv with
      | tup q1 q2 =>
        rcases Same.sqT h1.sub q1 with (z | ⟨o, z⟩) | ⟨o, its, n, z, zc, _⟩
        · exact fin _ (.base (.tup z)) rfl
        · exact fin _ (.fTuple z) rfl
        · exact fin _ (.kTuple z zc) rfl
    | ins c fs => exact (h1.nb rfl).elim⟩
end
end Lk
namespace Lk
open PySem PySem.Spec PyProof.Rows L2
/-- how a block ends: on, out of a loop, to its next turn, out of the def -/
inductive Out (S B T : Type) where
  | nx (s : S)
  | bk (b : B)
  | ct (b : B)
  | rt (r : T)
section
variable (K : PySem.W.Frag) (ca : Nat → Addr) {S B T : Type} (W : WX) (ρx : Env) (emb : S → Env) (embB : B → Env) (out : T → O)
structure So (D : Ends) (G H : Hp) (F : AS) (M : Res (Out S B T)) : Prop where
  nb : M ≠ .bug
  nx : ∀ s, M = .ok (.nx s) → ∀ σ' G' H' f', Evo G H F G' H' (All f') → EnvOk K ca G' H' σ' (emb s) f' → D.nx σ' H'
  bk : ∀ s, M = .ok (.bk s) → ∀ σ' G' H' f', Evo G H F G' H' (All f') → EnvOk K ca G' H' σ' (embB s) f' → D.bk σ' H'
  ct : ∀ s, M = .ok (.ct s) → ∀ σ' G' H' f', Evo G H F G' H' (All f') → EnvOk K ca G' H' σ' (embB s) f' → D.ct σ' H'
  rt : ∀ r, M = .ok (.rt r) → ∀ v G' H' g, Evo G H F G' H' g → Ow K ca G' H' v (out r) g → (∀ x, g x → G' x = none ∧ ∃ u, H' x = some u) → D.rt v H'
  ex : ∀ c, M = .exc c → ∀ σ' G' H' f', Evo G H F G' H' (All f') → EnvOk K ca G' H' σ' ρx f' → W (.ref (ca c)) none σ' H'
/-- a statement's, a block's reading: from what ρ tells, M is what comes -/
def tS (ρ : Env) (M : Res (Out S B T)) : TS := fun D σ H => ∃ G f, EnvOk K ca G H σ ρ f ∧ So K ca W ρx emb embB out D G H (All f) M
end
section
variable {K : PySem.W.Frag} {ca : Nat → Addr} {S S' B T α : Type} {W : WX} {ρ ρx : Env} {emb : S → Env} {emb' : S' → Env} {embB : B → Env} {out : T → O} {D : Ends} {G H G1 H1 : Hp} {F F1 : AS} {σ : L2.St} {f : Nat → AS}
theorem le_nil {ρ : Env} : Env.le [] ρ := fun i o h => by simp at h
theorem le_refl (ρ : Env) : Env.le ρ ρ := fun _ _ h => h
theorem So.step {m : Res α} {k : α → Res (Out S B T)} {a : α} (h : So K ca W ρx emb embB out D G H F (m >>= k)) (e : m = .ok a) (v : Evo G H F G1 H1 F1) : So K ca W ρx emb embB out D G1 H1 F1 (k a) := by
  subst e
  exact ⟨fun z => h.nb z, fun s z σ' G' H' f' v' E => h.nx s z σ' G' H' f' (v.trans v') E, fun s z σ' G' H' f' v' E => h.bk s z σ' G' H' f' (v.trans v') E, fun s z σ' G' H' f' v' E => h.ct s z σ' G' H' f' (v.trans v') E,
    fun r z w G' H' g v' => h.rt r z w G' H' g (v.trans v'), fun c z σ' G' H' f' v' E => h.ex c z σ' G' H' f' (v.trans v') E⟩
theorem So.on {M : Res (Out S B T)} (h : So K ca W ρx emb embB out D G H F M) (v : Evo G H F G1 H1 F1) : So K ca W ρx emb embB out D G1 H1 F1 M :=
  So.step (m := .ok ()) (k := fun _ => M) (a := ()) h rfl v
/-- an expression within a statement -/
theorem So.expr {m : Res α} {k : α → Res (Out S B T)} {P : α → Hp → Hp → Prop} (h : So K ca W ρx emb embB out D G H (All f) (m >>= k)) (E : EnvOk K ca G H σ ρ f) (le : Env.le ρx ρ)
    (hk : ∀ a G1 H1, m = .ok a → Gb H G H G1 H1 → EnvOk K ca G1 H1 σ ρ f → So K ca W ρx emb embB out D G1 H1 (All f) (k a) → P a G1 H1) : Cr K ca W ρ σ H G H m P := by
  have hf : ∀ i a, f i a → ∃ u, H a = some u := fun i a q => (E.out i a q).2
  refine ⟨Same.refl _, ⟨f, E, hf⟩, fun e => h.nb (by rw [e]; rfl), fun a e G1 H1 g => hk a G1 H1 e g (E.gb hf g) (h.step e (.of_grow g.grow)), fun c e G1 H1 g => ?_⟩
  exact h.ex c (by rw [e]; rfl) σ G1 H1 f (.of_grow g.grow) ((E.gb hf g).weak le)
/-- a shared value is stored -/
theorem EnvOk.put (E : EnvOk K ca G H σ ρ f) {v : V} {d : Lk.D} {i : Nat} (hi : i < σ.length) (r : R K ca G v d) :
    EnvOk K ca G H (σ.set i (some v)) (ρ.set i (some (.d d))) (fun j => if j = i then none_ else f j) := E.store hi (.d r) fun a z => z.elim
theorem all_put {i : Nat} {g : AS} {x : Addr} (h : All (fun j => if j = i then g else f j) x) : g x ∨ All f x := by
  obtain ⟨j, h⟩ := h
  by_cases e : j = i
  · simp only [e, if_true] at h
    exact .inl h
  · simp only [e, if_false] at h
    exact .inr ⟨j, h⟩
/-- .. a new list of one's own -/
theorem EnvOk.putL (E : EnvOk K ca G H σ ρ f) {p : Addr} {vs : List V} {xs : List Lk.D} {i : Nat} (hi : i < σ.length) (hp : H p = some (.lst vs)) (gp : G p = none) (new : ∀ j, ¬ f j p) (r : RL K ca G vs xs) :
    EnvOk K ca G H (σ.set i (some (.ref p))) (ρ.set i (some (.ol xs))) (fun j => if j = i then (fun a => a = p) else f j) :=
  E.store hi (.ol hp r rfl) fun a z => by
    subst z
    exact ⟨fun j _ => new j, gp, _, hp⟩
end
theorem PS.ofI {X : Cx} {e : Stmt} {t t' : TS} (h : PS X e t) (k : ∀ D σ H, σ.length = X.N.length → t' D σ H → t D σ H) : PS X e t' := ⟨fun pins s σ H D I q => h.run pins s σ H D I (k D σ H I.len q)⟩
theorem PSs.ofI {X : Cx} {e : List Stmt} {t t' : TS} (h : PSs X e t) (k : ∀ D σ H, σ.length = X.N.length → t' D σ H → t D σ H) : PSs X e t' := ⟨fun pins s σ H D I q => h.run pins s σ H D I (k D σ H I.len q)⟩
theorem PSs.any {X : Cx} {ι : Type} {e : List Stmt} {t : ι → TS} (h : ∀ i, PSs X e (t i)) : PSs X e (fun D σ H => ∃ i, t i D σ H) := ⟨fun pins s σ H D I ⟨i, q⟩ => (h i).run pins s σ H D I q⟩
section
variable {X : Cx} {ca : Nat → Addr} {S S' B T α : Type} {W : WX} {ρ ρx : Env} {emb : S → Env} {emb' : S' → Env} {embB : B → Env} {out : T → O} {e c : Expr} {st : Stmt} {rest sa sb : List Stmt} {pos pos' : Pos} {i : Nat} {n : Str} {ma mb : Res D} {mas : Res (List D)} {mc : Res Bool}
/-! ### blocks -/
def Out.then_ {S S' B T : Type} (k : S → Res (Out S' B T)) : Out S B T → Res (Out S' B T)
  | .nx s => k s
  | .bk b => .ok (.bk b)
  | .ct b => .ok (.ct b)
  | .rt r => .ok (.rt r)
@[simp] theorem then_nx (k : S → Res (Out S' B T)) (s : S) : Out.then_ k (.nx s) = k s := rfl
@[simp] theorem then_bk (k : S → Res (Out S' B T)) (s : B) : Out.then_ k (.bk s) = .ok (.bk s) := rfl
@[simp] theorem then_ct (k : S → Res (Out S' B T)) (s : B) : Out.then_ k (.ct s) = .ok (.ct s) := rfl
@[simp] theorem then_rt (k : S → Res (Out S' B T)) (s : T) : Out.then_ k (.rt s) = .ok (.rt s) := rfl
theorem s_nil {s : S} (le : Env.le (emb s) ρ) : PSs X [] (tS X.K ca W ρx emb embB out ρ (.ok (.nx s))) :=
  PSs.of pss_nil fun D σ H ⟨G, f, E, h⟩ => h.nx s rfl σ G H f (.refl E.sub) (E.weak le)
theorem s_pass {s : S} {p : Pos} (le : Env.le (emb s) ρ) : PS X (.Pass p) (tS X.K ca W ρx emb embB out ρ (.ok (.nx s))) :=
  PS.of ps_pass fun D σ H ⟨G, f, E, h⟩ => h.nx s rfl σ G H f (.refl E.sub) (E.weak le)
theorem s_seq {M1 : Res (Out S' B T)} {M2 : S' → Res (Out S B T)} (h1 : PS X st (tS X.K ca W ρx emb' embB out ρ M1)) (h2 : ∀ s, PSs X rest (tS X.K ca W ρx emb embB out (emb' s) (M2 s))) :
    PSs X (st :: rest) (tS X.K ca W ρx emb embB out ρ (M1 >>= Out.then_ M2)) :=
  PSs.of (pss_cons h1 (PSs.any h2)) fun D σ H ⟨G, f, E, h⟩ => ⟨G, f, E, ⟨fun z => h.nb (by rw [z]; rfl), fun s z σ' G' H' f' v E' => ⟨s, G', f', E', h.step z v⟩, fun s z => h.bk s (by rw [z]; rfl), fun s z => h.ct s (by rw [z]; rfl), fun r z => h.rt r (by rw [z]; rfl), fun c z => h.ex c (by rw [z]; rfl)⟩⟩
theorem s_one {M : Res (Out S B T)} (h1 : PS X st (tS X.K ca W ρx emb embB out ρ M)) : PSs X [st] (tS X.K ca W ρx emb embB out ρ M) := pss_one h1
theorem s_docs {M : Res (Out S B T)} {x j p p2} (h : PSs X rest (tS X.K ca W ρx emb embB out ρ M)) : PSs X (.Expr (.Constant (.str x) j p) p2 :: rest) (tS X.K ca W ρx emb embB out ρ M) :=
  PSs.of (pss_cons ps_doc h) fun D σ H q => q
/-- a list of one's own is shared from here on -/
theorem s_pub {M : Res (Out S B T)} {xs : List D} (hi : ρ[i]? = some (some (.ol xs))) (h : PSs X rest (tS X.K ca W ρx emb embB out (ρ.set i (some (.d (.lst xs)))) M)) : PSs X rest (tS X.K ca W ρx emb embB out ρ M) :=
  PSs.of h fun D σ H ⟨G, f, E, h⟩ => by
    obtain ⟨v, q1, q2⟩ := E.slot i _ hi
    cases q2 with
    | @ol p vs _ _ hp rl fp =>
      have gp := (E.out i p fp).1
      have s1 : Same G (upd G p (.lst vs)) := fun a u z => by rw [upd_ne (ne_of_none z gp)]; exact z
      have s2 : Same (upd G p (.lst vs)) H := fun a u z => by
        by_cases e : a = p
        · subst e
          rw [upd_same] at z
          rw [hp]; exact z
        · rw [upd_ne e] at z
          exact E.sub a u z
      have E2 : EnvOk X.K ca (upd G p (.lst vs)) H σ (ρ.set i (some (.d (.lst xs)))) (fun j => if j = i then none_ else f j) := by
        refine ⟨s2, fun j o hj => ?_, fun j k a h1 h2 => ?_, fun j a h1 => ?_⟩
        · by_cases e : j = i
          · subst e
            have hl : j < (ρ.set j (some (.d (.lst xs)))).length := (List.getElem?_eq_some_iff.mp hj).1
            rw [List.length_set] at hl
            rw [List.getElem?_set_self hl] at hj
            cases hj
            exact ⟨_, q1, .d (.lst (.inl (.inl upd_same)) (rl.mono s1))⟩
          · rw [List.getElem?_set_ne (Ne.symm e)] at hj
            obtain ⟨w, z1, z2⟩ := E.slot j o hj
            exact ⟨w, z1, by simpa [e] using z2.mono s1 fun a u _ z => z⟩
        · by_cases e1 : j = i
          · simp only [e1, if_true] at h1
            exact h1.elim
          · by_cases e2 : k = i
            · simp only [e2, if_true] at h2
              exact h2.elim
            · simp only [e1, e2, if_false] at h1 h2
              exact E.sep j k a h1 h2
        · by_cases e1 : j = i
          · simp only [e1, if_true] at h1
            exact h1.elim
          · simp only [e1, if_false] at h1
            obtain ⟨z1, z2⟩ := E.out j a h1
            refine ⟨?_, z2⟩
            rw [upd_ne (fun z => e1 (E.sep j i a h1 (by rw [z]; exact fp)))]
            exact z1
      refine ⟨_, _, E2, h.on ⟨s1, s2, fun a o z _ => z, fun a o z => ?_, fun a z => ?_⟩⟩
      · by_cases e : a = p
        · subst e
          exact .inr (.inr ⟨i, fp⟩)
        · rw [upd_ne e] at z
          exact .inl z
      · rcases all_put z with z | z
        · exact z.elim
        · exact .inl z
/-- less is known from here on -/
theorem s_weak {M : Res (Out S B T)} {ρ' : Env} (le : Env.le ρ' ρ) (h : PSs X rest (tS X.K ca W ρx emb embB out ρ' M)) : PSs X rest (tS X.K ca W ρx emb embB out ρ M) :=
  PSs.of h fun D σ H ⟨G, f, E, h⟩ => ⟨G, f, E.weak le, h⟩
/-! ### names -/
theorem s_set {k : D → Res (Out S B T)} (hN : X.N.Nodup) (hi : X.N[i]? = some n) (hx : Loc X.env.scope n) (he : PE X e (tD X.K ca W ρ ma)) (le : Env.le ρx ρ)
    (h : ∀ a, PSs X rest (tS X.K ca W ρx emb embB out (ρ.set i (some (.d a))) (k a))) (hs : swapsWith e (some (.Name n pos')) pos.line X.env = pure false := by rfl)
    (hf : X.fn n = true ∨ X.env.scope.names.lookup n = some .local := by first | exact .inl rfl | exact .inr rfl | assumption) : PSs X (.Assign [.Name n pos'] e pos :: rest) (tS X.K ca W ρx emb embB out ρ (ma >>= k)) :=
  PSs.ofI (pss_cons (ps_set hN hi hx he hs hf) (PSs.any h)) fun D σ H hl ⟨G, f, E, hq⟩ => ⟨H, G, hq.expr E le fun a G1 H1 ea g E1 h1 v rv => by
    have hiσ : i < σ.length := by rw [hl]; exact (List.getElem?_eq_some_iff.mp hi).1
    exact ⟨a, G1, _, E1.put hiσ rv, h1.on ((Evo.refl E1.sub).less fun x z => (all_put z).elim False.elim id)⟩⟩
/-- .. a new list -/
theorem s_setL {k : List D → Res (Out S B T)} (hN : X.N.Nodup) (hi : X.N[i]? = some n) (hx : Loc X.env.scope n) (he : PE X e (tL X.K ca W ρ mas)) (le : Env.le ρx ρ)
    (h : ∀ a, PSs X rest (tS X.K ca W ρx emb embB out (ρ.set i (some (.ol a))) (k a))) (hs : swapsWith e (some (.Name n pos')) pos.line X.env = pure false := by rfl)
    (hf : X.fn n = true ∨ X.env.scope.names.lookup n = some .local := by first | exact .inl rfl | exact .inr rfl | assumption) : PSs X (.Assign [.Name n pos'] e pos :: rest) (tS X.K ca W ρx emb embB out ρ (mas >>= k)) :=
  PSs.ofI (pss_cons (ps_set hN hi hx he hs hf) (PSs.any h)) fun D σ H hl ⟨G, f, E, hq⟩ => ⟨H, G, hq.expr E le fun a G1 H1 ea g E1 h1 p vs hp gp hh rl => by
    have hiσ : i < σ.length := by rw [hl]; exact (List.getElem?_eq_some_iff.mp hi).1
    have new : ∀ j, ¬ f j p := fun j z => by
      obtain ⟨_, u, q⟩ := E.out j p z
      rw [hp] at q; cases q
    refine ⟨a, G1, _, E1.putL hiσ hh gp new rl, ?_⟩
    exact So.step (m := mas) hq ea ⟨g.g, g.sub, fun x o z _ => g.h x o z, fun x o z => (g.new x o z).elim .inl fun q => .inr (.inl q), fun x z => (all_put z).elim (fun q => .inr (by rw [q]; exact hp)) .inl⟩⟩
/-- x op= e: an int -/
theorem s_aug {op : Operator} {fi : Int → Int → Int} {x : Int} {k : D → Res (Out S B T)} (hN : X.N.Nodup) (hi : X.N[i]? = some n) (hx : Loc X.env.scope n) (hp : PIp X op (ipI fi)) (hv : ∃ d, ρ[i]? = some (some (.d d))) (he : PE X e (tD X.K ca W ρ ma)) (le : Env.le ρx ρ)
    {fd : D → D → Res D} (hfd : ∀ a b, fd (.int a) (.int b) = .ok (.int (fi a b))) (hfb : ∀ a b, fd a b ≠ .bug → ∃ i j, a = .int i ∧ b = .int j) {d0 : D} (hd : ρ[i]? = some (some (.d d0)))
    (h : ∀ a, PSs X rest (tS X.K ca W ρx emb embB out (ρ.set i (some (.d a))) (k a)))
    (hf : X.fn n = true ∨ X.env.scope.names.lookup n = some .local := by first | exact .inl rfl | exact .inr rfl | assumption) : PSs X (.AugAssign (.Name n pos') op e pos :: rest) (tS X.K ca W ρx emb embB out ρ (ma >>= fun b => fd d0 b >>= k)) :=
  PSs.ofI (pss_cons (ps_aug hN hi hx he hp hf) (PSs.any h)) fun D σ H hl ⟨G, f, E, hq⟩ => by
    have hiσ : i < σ.length := by rw [hl]; exact (List.getElem?_eq_some_iff.mp hi).1
    obtain ⟨v0, q1, q2⟩ := E.slot i _ hd
    cases q2 with
    | d q2 =>
      refine ⟨v0, q1, H, G, hq.expr E le fun b G1 H1 ea g E1 h1 w rw' => ?_⟩
      obtain ⟨a', b', ea', eb'⟩ := hfb d0 b (bind_ne h1.nb)
      subst ea' eb'
      have q3 := q2.mono g.g
      cases q3
      cases rw'
      rw [hfd] at h1
      exact ⟨a', b', rfl, rfl, .int (fi a' b'), G1, _, E1.put hiσ (.int _), h1.on ((Evo.refl E1.sub).less fun x z => (all_put z).elim False.elim id)⟩
/-! ### what is done with a list of one's own -/
theorem EnvOk.change {K : PySem.W.Frag} {G H : Hp} {σ : L2.St} {f : Nat → AS} (E : EnvOk K ca G H σ ρ f) {p : Addr} {vs : List V} {xs : List Lk.D} {o : HO} (fp : f i p) (ho : o = .lst vs) (rl : RL K ca G vs xs) {v : V} (hv : σ[i]? = some (some v)) (ev : v = .ref p) :
    EnvOk K ca G (upd H p o) σ (ρ.set i (some (.ol xs))) f ∧ Evo G H (All f) G (upd H p o) (All f) := by
  subst ho ev
  have gp := (E.out i p fp).1
  have sub : Same G (upd H p (.lst vs)) := fun a u z => by rw [upd_ne (ne_of_none z gp)]; exact E.sub a u z
  refine ⟨⟨sub, fun j u hj => ?_, E.sep, fun j a h1 => ?_⟩, ⟨Same.refl _, sub, fun a u z nf => ?_, fun a u z => .inl z, fun a z => .inl z⟩⟩
  · by_cases e : j = i
    · subst e
      have hl : j < (ρ.set j (some (.ol xs))).length := (List.getElem?_eq_some_iff.mp hj).1
      rw [List.length_set] at hl
      rw [List.getElem?_set_self hl] at hj
      cases hj
      exact ⟨_, hv, .ol upd_same rl fp⟩
    · rw [List.getElem?_set_ne (Ne.symm e)] at hj
      obtain ⟨w, z1, z2⟩ := E.slot j u hj
      refine ⟨w, z1, z2.mono (Same.refl _) fun a u' fa z => ?_⟩
      rw [upd_ne (fun z => e (E.sep j i a fa (by rw [z]; exact fp)))]
      exact z
  · obtain ⟨z1, u, z2⟩ := E.out j a h1
    refine ⟨z1, ?_⟩
    by_cases e : a = p
    · exact ⟨_, by rw [e]; exact upd_same⟩
    · exact ⟨u, by rw [upd_ne e]; exact z2⟩
  · rw [upd_ne (fun e => nf ⟨i, by rw [e]; exact fp⟩)]
    exact z
theorem EnvOk.own {K : PySem.W.Frag} {G H : Hp} {σ : L2.St} {f : Nat → AS} {xs : List Lk.D} (E : EnvOk K ca G H σ ρ f) (h : ρ[i]? = some (some (.ol xs))) : ∃ p vs, σ[i]? = some (some (.ref p)) ∧ H p = some (.lst vs) ∧ RL K ca G vs xs ∧ f i p := by
  obtain ⟨v, q1, q2⟩ := E.slot i _ h
  cases q2 with
  | ol a b c => exact ⟨_, _, q1, a, b, c⟩
/-- x.append(e) -/
def pushR (xs : List D) (d : D) : Res (List D) := if xs.length < 100000 then .ok (xs ++ [d]) else .bug
theorem pushR_ok {xs : List D} {d : D} (h : xs.length < 100000) : pushR xs d = .ok (xs ++ [d]) := if_pos h
theorem s_append {apos cpos epos p0 : Pos} {xs : List D} {k : List D → Res (Out S B T)} (hN : X.N[i]? = some n) (hv : Vis X.env.scope n) (hd : (n == ("__debug__" : Str)) = false) (hcd : (n == ("__classdict__" : Str)) = false)
    (ho : ρ[i]? = some (some (.ol xs))) (he : PE X e (tD X.K ca W ρ ma)) (le : Env.le ρx ρ) (h : ∀ ys, PSs X rest (tS X.K ca W ρx emb embB out (ρ.set i (some (.ol ys))) (k ys)))
    (hbase : attributeBase (.Name n p0) "append" X.env (eval (.Name n p0) X.env) = eval (.Name n p0) X.env := by rfl)
    (hfew : ((backTo cpos (starEach [e] X.env)).all (fun x => !x.1) && (backToKw cpos (keywordEach [] X.env)).all (fun x => x.1.isSome)
      && decide ([e].length + ([] : List Keyword).length + (if ([] : List Keyword).isEmpty then 0 else 1) < 30)) = true := by rfl)
    (hline : (apos.endLine == cpos.line) = true := by rfl) (hs : starEach [e] X.env = (false, eval e X.env) :: starEach [] X.env := by rfl) (hplain : (backTo cpos (starEach [] X.env)).any (·.1) = false := by rfl)
    (hsw : swapsWith (.Call (.Attribute (.Name n p0) "append" apos) [e] [] cpos) none epos.line X.env = pure false := by rfl) :
    PSs X (.Expr (.Call (.Attribute (.Name n p0) "append" apos) [e] [] cpos) epos :: rest) (tS X.K ca W ρx emb embB out ρ (ma >>= fun d => pushR xs d >>= k)) :=
  PSs.of (pss_cons (ps_expr (pe_bm PySem.F.plainAttrs_list PySem.F.slot_list_append PySem.F.type_list_append mt_append (pe_var hN hv hd hcd) (pa_cons he pa_nil hs) hbase hfew hline hs hplain) hsw) (PSs.any h)) fun D σ H ⟨G, f, E, hq⟩ => by
    obtain ⟨p, vs, hσ, hp, rl, fp⟩ := E.own ho
    refine ⟨.ref p, hσ, .inl ⟨rfl, _, SqL.of hp⟩, H, G, hq.expr E le fun d G1 H1 ea g E1 h1 w rw' => ?_⟩
    have rl1 := rl.mono g.g
    by_cases hz : xs.length < 100000
    · rw [pushR_ok hz] at h1
      refine ⟨p, vs, w, rfl, rfl, g.h _ _ hp, Nat.lt_of_lt_of_le (by rw [rl.length]; exact hz) (by decide), xs ++ [d], ?_⟩
      obtain ⟨E2, v2⟩ := E1.change (vs := vs ++ [w]) (xs := xs ++ [d]) fp rfl (rl1.append (.cons rw' .nil)) hσ rfl
      exact ⟨G1, f, E2, h1.on v2⟩
    · exact (h1.nb (by unfold pushR; rw [if_neg hz]; rfl)).elim
/-- x[i] = e -/
def setR (xs : List D) (k : D) (d : D) : Res (List D) := match k with
  | .int i => (match ixN xs.length i with | some j => .ok (xs.set j d) | none => .bug)
  | _ => .bug
theorem setR_nat {xs : List D} {j : Nat} {d : D} (h : j < xs.length) : setR xs (.int (j : Int)) d = .ok (xs.set j d) := by
  have e : ixN xs.length (j : Int) = some j := by
    unfold ixN
    rw [if_pos (by omega), if_pos (by omega)]; simp
  simp only [setR, e]
theorem s_setItem {spos p0 : Pos} {b : Expr} {xs : List D} {k : List D → Res (Out S B T)} (hN : X.N[i]? = some n) (hv : Vis X.env.scope n) (hd : (n == ("__debug__" : Str)) = false) (hcd : (n == ("__classdict__" : Str)) = false)
    (ho : ρ[i]? = some (some (.ol xs))) (he : PE X e (tD X.K ca W ρ ma)) (hb : PE X b (tD X.K ca W ρ mb)) (le : Env.le ρx ρ) (h : ∀ ys, PSs X rest (tS X.K ca W ρx emb embB out (ρ.set i (some (.ol ys))) (k ys)))
    (hs : swapsWithSole [.Subscript (.Name n p0) b spos] e pos.line X.env = pure false := by rfl) (hw : swappedStores [.Subscript (.Name n p0) b spos] e X.env = pure none := by rfl)
    (h1 : (assignEach [.Subscript (.Name n p0) b spos] X.env).map (·.2) = [assign (.Subscript (.Name n p0) b spos) X.env] := by rfl)
    (ha : ∀ v, assign (.Subscript (.Name n p0) b spos) X.env v = (do
      let ov ← holding [v] (eval (.Name n p0) X.env)
      let iv ← holding [v, ov] (eval b X.env)
      standAt spos
      holding [v, ov, iv] (setItem ov iv v)
      release [v, ov, iv] []) := by intro _; rfl) :
    PSs X (.Assign [.Subscript (.Name n p0) b spos] e pos :: rest) (tS X.K ca W ρx emb embB out ρ (ma >>= fun d => mb >>= fun y => setR xs y d >>= k)) :=
  PSs.of (pss_cons (ps_asg he (pg_sub (pe_var hN hv hd hcd) hb set_list ha) hs hw h1) (PSs.any h)) fun D σ H ⟨G, f, E, hq⟩ => by
    obtain ⟨p, vs, hσ, hp, rl, fp⟩ := E.own ho
    refine ⟨H, G, hq.expr E le fun d G1 H1 ea g E1 h1 w rw' => ?_⟩
    refine ⟨.ref p, hσ, H1, G1, h1.expr E1 le fun y G2 H2 eb g2 E2 h2 u ru => ?_⟩
    cases y with
    | int z =>
      cases ru
      cases e : ixN xs.length z with
      | none => exact (h2.nb (by simp only [setR, e]; rfl)).elim
      | some j =>
        have e2 : setR xs (.int z) d = .ok (xs.set j d) := by simp only [setR, e]
        rw [e2] at h2
        refine ⟨p, vs, z, j, rfl, rfl, g2.h _ _ (g.h _ _ hp), by rw [rl.length]; exact e, xs.set j d, ?_⟩
        obtain ⟨E3, v3⟩ := E2.change (vs := vs.set j w) (xs := xs.set j d) fp rfl ((rl.mono (g.g.trans g2.g)).set (rw'.mono g2.g) j) hσ rfl
        exact ⟨G2, f, E3, h2.on v3⟩
    | _ => exact (h2.nb rfl).elim
/-- a list of one's own is read: x[i], len(x), truth -/
theorem e_own {m : Res D} (hi : ∀ G H σ f, EnvOk X.K ca G H σ ρ f → True) (h : PE X e (tD X.K ca W ρ m)) : PE X e (tD X.K ca W ρ m) := h
/-! ### if -/
def Out.up {S B T : Type} : Out Empty B T → Out S B T
  | .bk b => .bk b
  | .ct b => .ct b
  | .rt r => .rt r
def Res.up {S B T : Type} (m : Res (Out Empty B T)) : Res (Out S B T) := m >>= fun o => .ok o.up
@[simp] theorem up_ok (o : Out Empty B T) : Res.up (S := S) (.ok o) = .ok o.up := rfl
@[simp] theorem up_exc (c : Nat) : Res.up (S := S) (B := B) (T := T) (.exc c) = .exc c := rfl
@[simp] theorem up_bug : Res.up (S := S) (B := B) (T := T) .bug = .bug := rfl
@[simp] theorem oup_rt (r : T) : Out.up (S := S) (B := B) (.rt r) = .rt r := rfl
@[simp] theorem oup_bk (r : B) : Out.up (S := S) (T := T) (.bk r) = .bk r := rfl
@[simp] theorem oup_ct (r : B) : Out.up (S := S) (T := T) (.ct r) = .ct r := rfl
theorem So.down {K : PySem.W.Frag} {G H : Hp} {F : AS} {D : Ends} {D' : Ends} {M : Res (Out Empty B T)} {nE : Empty → Env} (h : So K ca W ρx emb embB out D G H F (Res.up M)) (e1 : D'.bk = D.bk) (e2 : D'.ct = D.ct) (e3 : D'.rt = D.rt) : So K ca W ρx nE embB out D' G H F M :=
  ⟨fun z => h.nb (by rw [z]; rfl), fun s => s.elim, fun s z => by rw [e1]; exact h.bk s (by rw [z]; rfl), fun s z => by rw [e2]; exact h.ct s (by rw [z]; rfl), fun r z => by rw [e3]; exact h.rt r (by rw [z]; rfl), fun c z => h.ex c (by rw [z]; rfl)⟩
/-- if c: a block that leaves; the rest -/
theorem s_ifx {MA : Res (Out Empty B T)} {M : Res (Out S B T)} {nE : Empty → Env} (hc : PT X c (tB X.K ca W ρ mc)) (le : Env.le ρx ρ) (ha : PSs X sa (tS X.K ca W ρx nE embB out ρ MA)) (h : PSs X rest (tS X.K ca W ρx emb embB out ρ M)) :
    PSs X (.If c sa [] pos :: rest) (tS X.K ca W ρx emb embB out ρ (mc >>= fun b => if b then Res.up MA else M)) :=
  PSs.of (pss_cons (ps_if hc ha pss_nil) h) fun D σ H ⟨G, f, E, hq⟩ => ⟨H, G, hq.expr E le fun b G1 H1 eb g E1 h1 => by
    cases b with
    | true => exact ⟨G1, f, E1, So.down h1 rfl rfl rfl⟩
    | false => exact ⟨G1, f, E1, h1⟩⟩
/-- if c: a block; else: one that leaves; the rest behind the first -/
theorem s_if {MA MB : Res (Out S B T)} (hc : PT X c (tB X.K ca W ρ mc)) (le : Env.le ρx ρ) (ha : PSs X sa (tS X.K ca W ρx emb embB out ρ MA)) (hb : PSs X sb (tS X.K ca W ρx emb embB out ρ MB)) :
    PS X (.If c sa sb pos) (tS X.K ca W ρx emb embB out ρ (mc >>= fun b => if b then MA else MB)) :=
  PS.of (ps_if hc ha hb) fun D σ H ⟨G, f, E, hq⟩ => ⟨H, G, hq.expr E le fun b G1 H1 eb g E1 h1 => by
    cases b with
    | true => exact ⟨G1, f, E1, h1⟩
    | false => exact ⟨G1, f, E1, h1⟩⟩
/-! ### return, break, continue -/
theorem s_ret {embB : B → Env} (he : PE X e (tD X.K ca W ρ ma)) (le : Env.le ρx ρ) : PS X (.Return (some e) pos) (tS X.K ca W ρx emb embB O.d ρ (ma >>= fun a => .ok (.rt a))) :=
  PS.of (ps_ret he) fun D σ H ⟨G, f, E, hq⟩ => ⟨H, G, hq.expr E le fun a G1 H1 ea g E1 h1 v rv => h1.rt a rfl v G1 H1 none_ ((Evo.refl E1.sub).less fun x z => z.elim) (.d rv) fun x z => z.elim⟩
theorem s_retL {embB : B → Env} (he : PE X e (tL X.K ca W ρ mas)) (le : Env.le ρx ρ) : PS X (.Return (some e) pos) (tS X.K ca W ρx emb embB O.ol ρ (mas >>= fun a => .ok (.rt a))) :=
  PS.of (ps_ret he) fun D σ H ⟨G, f, E, hq⟩ => ⟨H, G, hq.expr E le fun a G1 H1 ea g E1 h1 p vs hp gp hh rl =>
    So.rt hq a (by rw [ea]; rfl) (.ref p) G1 H1 (fun x => x = p) ⟨g.g, g.sub, fun x o z _ => g.h x o z, fun x o z => (g.new x o z).elim .inl fun q => .inr (.inl q), fun x z => .inr (by rw [z]; exact hp)⟩ (.ol hh rl rfl) fun x z => by rw [z]; exact ⟨gp, _, hh⟩⟩
/-- return x, x a list of one's own -/
theorem s_retOwn {xs : List D} {p0 : Pos} (hN : X.N[i]? = some n) (hv : Vis X.env.scope n) (hd : (n == ("__debug__" : Str)) = false) (hcd : (n == ("__classdict__" : Str)) = false) (ho : ρ[i]? = some (some (.ol xs))) :
    PS X (.Return (some (.Name n p0)) pos) (tS X.K ca W ρx emb embB O.ol ρ (.ok (.rt xs))) :=
  PS.of (ps_ret (pe_var hN hv hd hcd)) fun D σ H ⟨G, f, E, hq⟩ => by
    obtain ⟨p, vs, hσ, hp, rl, fp⟩ := E.own ho
    exact ⟨.ref p, hσ, hq.rt xs rfl (.ref p) G H (fun x => x = p) ((Evo.refl E.sub).less fun x z => ⟨i, by rw [z]; exact fp⟩) (.ol hp rl rfl) fun x z => by rw [z]; exact E.out i p fp⟩
theorem s_retN {embB : B → Env} : PS X (.Return none pos) (tS X.K ca W ρx emb embB O.d ρ (.ok (.rt .non))) :=
  PS.of ps_retN fun D σ H ⟨G, f, E, hq⟩ => hq.rt .non rfl .non G H none_ ((Evo.refl E.sub).less fun x z => z.elim) (.d .non) fun x z => z.elim
theorem s_break {s : B} (le : Env.le (embB s) ρ) : PS X (.Break pos) (tS X.K ca W ρx emb embB out ρ (.ok (.bk s))) :=
  PS.of ps_break fun D σ H ⟨G, f, E, hq⟩ => hq.bk s rfl σ G H f (.refl E.sub) (E.weak le)
theorem s_continue {s : B} (le : Env.le (embB s) ρ) : PS X (.Continue pos) (tS X.K ca W ρx emb embB out ρ (.ok (.ct s))) :=
  PS.of ps_continue fun D σ H ⟨G, f, E, hq⟩ => hq.ct s rfl σ G H f (.refl E.sub) (E.weak le)
/-- e, its value dropped -/
theorem s_drop {k : Res (Out S B T)} (he : PE X e (tD X.K ca W ρ ma)) (le : Env.le ρx ρ) (h : PSs X rest (tS X.K ca W ρx emb embB out ρ k)) (hs : swapsWith e none pos.line X.env = pure false := by rfl) :
    PSs X (.Expr e pos :: rest) (tS X.K ca W ρx emb embB out ρ (ma >>= fun _ => k)) :=
  PSs.of (pss_cons (ps_expr he hs) h) fun D σ H ⟨G, f, E, hq⟩ => ⟨H, G, hq.expr E le fun a G1 H1 ea g E1 h1 v rv => ⟨G1, f, E1, h1⟩⟩
/-- raise X('..') -/
theorem s_raise {cx : Nat} {x : Expr} (hc : X.calm = true) (tk : Takes X W) (hm : PMk X x (fun _ H Q => Q (.ref (ca cx)) none H)) (le : Env.le ρx ρ) : PS X (.Raise (some x) none pos) (tS X.K ca W ρx emb embB out ρ (.exc cx)) :=
  PS.of (ps_raise hc tk hm) fun D σ H ⟨G, f, E, hq⟩ => hq.ex cx rfl σ G H f (.refl E.sub) (E.weak le)
end
end Lk
namespace Lk
open PySem PySem.Spec PyProof.Rows L2
/-! ### what is walked -/
structure Wk (K : PySem.W.Frag) (ca : Nat → Addr) (J : It) (G0 : Hp) (xs : List D) : Prop where
  go : ∀ i H, Same G0 H → i < xs.length → J.go i H
  stop : ∀ i H, Same G0 H → i = xs.length → J.stop i H
  yld : ∀ i Hb G H x H', Same G0 G → Same Hb H → Same G H → i < xs.length → J.yld i H x H' → ∃ d G', xs[i]? = some d ∧ Gb Hb G H G' H' ∧ R K ca G' x d
def tIt (K : PySem.W.Frag) (ca : Nat → Addr) (W : WX) (ρ : Env) (m : Res (List D)) : TI := fun σ H Rq => ∃ Hb G, Cr K ca W ρ σ Hb G H m fun xs G' H' => ∀ J, Wk K ca J G' xs → Rq J H'
theorem PI.of {X : Cx} {tg e : Expr} {t t' : TI} (h : PI X tg e t) (k : ∀ σ H Q, t' σ H Q → t σ H Q) : PI X tg e t' := ⟨fun pins s σ H Q I q => h.run pins s σ H Q I (k σ H Q q)⟩
theorem PI.two {X : Cx} {tg e : Expr} {t t' : TI} (h : PI X tg e t) (h' : PI X tg e t') : PI X tg e (fun σ H Q => t σ H Q ∨ t' σ H Q) := ⟨fun pins s σ H Q I q => q.elim (h.run pins s σ H Q I) (h'.run pins s σ H Q I)⟩
def D.seq : D → Res (List D)
  | .lst xs => .ok xs
  | .tup xs => .ok xs
  | .str z => .ok (z.cps.toList.map fun c => .str ⟨#[c]⟩)
  | _ => .bug
@[simp] theorem seq_lst (xs : List D) : D.seq (.lst xs) = .ok xs := rfl
@[simp] theorem seq_tup (xs : List D) : D.seq (.tup xs) = .ok xs := rfl
@[simp] theorem seq_str (z : Str) : D.seq (.str z) = .ok (z.cps.toList.map fun c => .str ⟨#[c]⟩) := rfl
def rangeD (lo : Int) (n : Nat) : List D := (List.range n).map fun (k : Nat) => .int (lo + (k : Int))
@[simp] theorem rangeD_length (lo : Int) (n : Nat) : (rangeD lo n).length = n := by simp [rangeD]
def inB (i : Int) : Bool := decide (-(4611686018427387904) ≤ i ∧ i < 4611686018427387904)
def D.range1 : List D → Res (List D) := one fun
  | .int j => if inB j = true then .ok (rangeD 0 j.toNat) else .bug
  | _ => .bug
def D.range2 : List D → Res (List D) := two' fun i j => if (inB i && inB j) = true then .ok (rangeD i (j - i).toNat) else .bug
def downD (i : Int) (n : Nat) : List D := (List.range n).map fun (k : Nat) => .int (i + (k : Int) * -1)
@[simp] theorem downD_length (lo : Int) (n : Nat) : (downD lo n).length = n := by simp [downD]
def D.range3 : List D → Res (List D)
  | [.int i, .int j, .int c] => if (inB i && inB j && decide (c = -1)) = true then .ok (downD i (i - j).toNat) else .bug
  | _ => .bug
theorem range1_ok {j : Int} (h : inB j = true) : D.range1 [.int j] = .ok (rangeD 0 j.toNat) := if_pos h
theorem range2_ok {i j : Int} (h : inB i = true) (h2 : inB j = true) : D.range2 [.int i, .int j] = .ok (rangeD i (j - i).toNat) := if_pos (by rw [h, h2]; rfl)
theorem range3_ok {i j : Int} (h : inB i = true) (h2 : inB j = true) : D.range3 [.int i, .int j, .int (-1)] = .ok (downD i (i - j).toNat) := if_pos (by rw [h, h2]; rfl)
section
variable {K : PySem.W.Frag} {ca : Nat → Addr}
theorem wk_list {G : Hp} {a : Addr} {vs : List V} {xs : List D} (h : SqL K G a vs) (r : RL K ca G vs xs) : Wk K ca (Itl K a) G xs where
  go := fun i H s hi => ⟨vs, vs[i]'(by rw [r.length]; exact hi), Same.sqL s h, by simp⟩
  stop := fun i H s hi => ⟨vs, Same.sqL s h, by rw [r.length]; omega⟩
  yld := fun i Hb G1 H x H' s1 sb s hi ⟨e, q⟩ => by
    subst e
    obtain ⟨d, q1, q2⟩ := r.get' (q vs (Same.sqL (s1.trans s) h))
    exact ⟨d, G1, q1, .refl s, q2.mono s1⟩
theorem wk_tup {G : Hp} {a : Addr} {vs : List V} {xs : List D} (h : SqT K G a vs) (r : RL K ca G vs xs) : Wk K ca (Itt K a) G xs where
  go := fun i H s hi => ⟨vs, vs[i]'(by rw [r.length]; exact hi), Same.sqT s h, by simp⟩
  stop := fun i H s hi => ⟨vs, Same.sqT s h, by rw [r.length]; omega⟩
  yld := fun i Hb G1 H x H' s1 sb s hi ⟨e, q⟩ => by
    subst e
    obtain ⟨d, q1, q2⟩ := r.get' (q vs (Same.sqT (s1.trans s) h))
    exact ⟨d, G1, q1, .refl s, q2.mono s1⟩
theorem wk_str {G : Hp} {z : Str} : Wk K ca (Its z) G (z.cps.toList.map fun c => .str ⟨#[c]⟩) where
  go := fun i H s hi => by
    rw [List.length_map, Array.length_toList] at hi
    exact hi
  stop := fun i H s hi => by
    rw [List.length_map, Array.length_toList] at hi
    exact Nat.le_of_eq hi.symm
  yld := fun i Hb G1 H x H' s1 sb s hi ⟨e, c, q1, q2⟩ => by
    subst e q2
    refine ⟨.str ⟨#[c]⟩, G1, ?_, .refl s, .str _⟩
    rw [List.getElem?_map, Array.getElem?_toList, q1]
    rfl
theorem wk_range {G : Hp} {lo : Int} {n : Nat} : Wk K ca (Itr lo n) G (rangeD lo n) where
  go := fun i H s hi => by rwa [rangeD_length] at hi
  stop := fun i H s hi => by rw [rangeD_length] at hi; exact Nat.le_of_eq hi.symm
  yld := fun i Hb G1 H x H' s1 sb s hi ⟨e, q⟩ => by
    subst e q
    rw [rangeD_length] at hi
    refine ⟨.int (lo + i), G1, ?_, .refl s, .int _⟩
    simp [rangeD, hi]
theorem wk_down {G : Hp} {lo : Int} {n : Nat} : Wk K ca (Itc lo (-1) n) G (downD lo n) where
  go := fun i H s hi => by rwa [downD_length] at hi
  stop := fun i H s hi => by rw [downD_length] at hi; exact Nat.le_of_eq hi.symm
  yld := fun i Hb G1 H x H' s1 sb s hi ⟨e, q⟩ => by
    subst e q
    rw [downD_length] at hi
    refine ⟨.int (lo + (i : Int) * -1), G1, ?_, .refl s, .int _⟩
    simp [downD, hi]
/-- enumerate(xs) -/
def enumD (xs : List D) : List D := (List.range xs.length).zipWith (fun (k : Nat) x => .tup [.int (k : Int), x]) xs
theorem enumD_length (xs : List D) : (enumD xs).length = xs.length := by simp [enumD]
theorem wk_enum {G : Hp} {a : Addr} {vs : List V} {xs : List D} (h : SqL K G a vs) (r : RL K ca G vs xs) : Wk K ca (Ite K a) G (enumD xs) where
  go := fun i H s hi => by
    rw [enumD_length] at hi
    exact ⟨vs, vs[i]'(by rw [r.length]; exact hi), Same.sqL s h, by simp⟩
  stop := fun i H s hi => ⟨vs, Same.sqL s h, by rw [enumD_length] at hi; rw [r.length]; omega⟩
  yld := fun i Hb G1 H x H' s1 sb s hi ⟨T, w, ex, hT, eH, q⟩ => by
    subst ex eH
    rw [enumD_length] at hi
    obtain ⟨d, q1, q2⟩ := r.get' (q vs (Same.sqL (s1.trans s) h))
    have g := Gb.alloc (Hb := Hb) (o := .tup [.int (i : Nat), w]) s sb hT
    refine ⟨.tup [.int (i : Int), d], _, ?_, g, R.newT (s.free hT) (.cons (.int _) (.cons (q2.mono s1) .nil))⟩
    simp [enumD, List.getElem?_zipWith, q1, hi]
    exact (List.getElem?_eq_some_iff.mp q1).2
end
section
variable {X : Cx} {ca : Nat → Addr} {W : WX} {ρ : Env} {tg e : Expr} {ma : Res D} {mas : Res (List D)} {p pos : Pos} {es : List Expr} {a b c : Expr}
theorem i_seq (he : PE X e (tD X.K ca W ρ ma)) : PI X tg e (tIt X.K ca W ρ (ma >>= fun x => D.seq x)) :=
  PI.of (PI.two (pi_list he) (PI.two (pi_tup he) (pi_str he))) fun σ H Q ⟨Hb, G, h⟩ => by
    -- the value's kind is known by the result
    cases hm : ma with
    | bug => exact (h.nb (by rw [hm]; rfl)).elim
    | exc k =>
      subst hm
      exact .inl ⟨Hb, G, h.cut fun x G1 H1 ex => by cases ex⟩
    | ok x =>
      subst hm
      cases x with
      | lst xs => exact .inl ⟨Hb, G, h.cut fun y G1 H1 ey g1 h1 v rv => by
          cases ey
          cases rv with
          | lst q1 q2 => exact ⟨_, rfl, ⟨_, Same.sqL h1.sub q1⟩, h1.done _ (wk_list q1 q2)⟩⟩
      | tup xs => exact .inr (.inl ⟨Hb, G, h.cut fun y G1 H1 ey g1 h1 v rv => by
          cases ey
          cases rv with
          | tup q1 q2 => exact ⟨_, rfl, ⟨_, Same.sqT h1.sub q1⟩, h1.done _ (wk_tup q1 q2)⟩⟩)
      | str z => exact .inr (.inr ⟨Hb, G, h.cut fun y G1 H1 ey g1 h1 v rv => by
          cases ey
          cases rv
          exact ⟨z, rfl, h1.done _ wk_str⟩⟩)
      | _ => exact (h.nb rfl).elim
theorem inB_of {i : Int} (h : inB i = true) : -(2 ^ 62) ≤ i ∧ i < 2 ^ 62 := by
  have q := of_decide_eq_true h
  omega
theorem i_range1 (hg : Gl X "range") (hm : X.mg "range" = none) (ha : PA X [a] (tArg X.K ca W ρ mas)) (hs : starEach [a] X.env = [(false, eval a X.env)] := by rfl) :
    PI X tg (.Call (.Name "range" p) [a] [] pos) (tIt X.K ca W ρ (mas >>= fun xs => D.range1 xs)) :=
  PI.of (pi_range1 hg hm ha hs) fun σ H Q ⟨Hb, G, h⟩ => ⟨Hb, G, h.cut fun xs G1 H1 _ g1 h1 vs rvs => by
    obtain ⟨x, v, rfl, rfl, r1⟩ := RL.one h1.nb rvs
    cases x with
    | int j =>
      cases r1
      by_cases hc : inB j = true
      · have := inB_of hc
        exact ⟨j, rfl, by omega, by omega, h1.ok _ (if_pos hc) _ _ (.refl h1.sub) _ wk_range⟩
      · exact (h1.nb (if_neg hc)).elim
    | _ => exact (h1.nb rfl).elim⟩
theorem i_range2 (hg : Gl X "range") (hm : X.mg "range" = none) (ha : PA X [a, b] (tArg X.K ca W ρ mas)) (hs : starEach [a, b] X.env = [(false, eval a X.env), (false, eval b X.env)] := by rfl) (hs2 : starEach [b] X.env = [(false, eval b X.env)] := by rfl) :
    PI X tg (.Call (.Name "range" p) [a, b] [] pos) (tIt X.K ca W ρ (mas >>= fun xs => D.range2 xs)) :=
  PI.of (pi_range2 hg hm ha hs hs2) fun σ H Q ⟨Hb, G, h⟩ => ⟨Hb, G, h.cut fun xs G1 H1 _ g1 h1 vs rvs => by
    obtain ⟨i, j, rfl, rfl⟩ := RL.two' h1.nb rvs
    by_cases hc : (inB i && inB j) = true
    · have hc' := Bool.and_eq_true_iff.mp hc
      have := inB_of hc'.1
      have := inB_of hc'.2
      exact ⟨i, j, rfl, ⟨by omega, by omega, by omega, by omega⟩, h1.ok _ (if_pos hc) _ _ (.refl h1.sub) _ wk_range⟩
    · exact (h1.nb (if_neg hc)).elim⟩
theorem i_range3 (hg : Gl X "range") (hm : X.mg "range" = none) (ha : PA X [a, b, c] (tArg X.K ca W ρ mas))
    (hs : starEach [a, b, c] X.env = (false, eval a X.env) :: starEach [b, c] X.env := by rfl) (hpl : (backTo pos (starEach [b, c] X.env)).any (·.1) = false := by rfl) :
    PI X tg (.Call (.Name "range" p) [a, b, c] [] pos) (tIt X.K ca W ρ (mas >>= fun xs => D.range3 xs)) :=
  PI.of (pi_range3 hg hm ha hs hpl) fun σ H Q ⟨Hb, G, h⟩ => ⟨Hb, G, h.cut fun xs G1 H1 _ g1 h1 vs rvs => by
    have inv : ∀ {xs : List D} {vs : List V}, D.range3 xs ≠ .bug → RL X.K ca G1 vs xs → ∃ i j c, xs = [.int i, .int j, .int c] ∧ vs = [.int i, .int j, .int c] := fun {xs vs} nb r => by
      unfold D.range3 at nb
      split at nb
      · cases r with
        | cons r1 r => cases r with
          | cons r2 r => cases r with
            | cons r3 r =>
              cases r; cases r1; cases r2; cases r3
              exact ⟨_, _, _, rfl, rfl⟩
      · exact (nb rfl).elim
    obtain ⟨i, j, k, rfl, rfl⟩ := inv h1.nb rvs
    by_cases hc : (inB i && inB j && decide (k = -1)) = true
    · have hc' := Bool.and_eq_true_iff.mp hc
      have hc2 := Bool.and_eq_true_iff.mp hc'.1
      have := inB_of hc2.1
      have := inB_of hc2.2
      have ek : k = -1 := of_decide_eq_true hc'.2
      subst ek
      exact ⟨i, j, -1, (i - j).toNat, rfl, RgC.neg (by omega) (by omega) (by omega) (by omega), h1.ok _ (if_pos hc) _ _ (.refl h1.sub) _ wk_down⟩
    · exact (h1.nb (if_neg hc)).elim⟩
def D.enum : List D → Res (List D) := one fun
  | .lst xs => .ok (enumD xs)
  | _ => .bug
@[simp] theorem enum_lst (xs : List D) : D.enum [.lst xs] = .ok (enumD xs) := rfl
theorem i_enum {elts : List Expr} {kk : Nat} {tpos : Pos} (hg : Gl X "enumerate") (hm : X.mg "enumerate" = none) (ha : PA X [a] (tArg X.K ca W ρ mas)) (hs : starEach [a] X.env = [(false, eval a X.env)] := by rfl) :
    PI X (.Tuple elts kk tpos) (.Call (.Name "enumerate" p) [a] [] pos) (tIt X.K ca W ρ (mas >>= fun xs => D.enum xs)) :=
  PI.of (pi_enum hg hm ha hs) fun σ H Q ⟨Hb, G, h⟩ => ⟨Hb, G, h.cut fun xs G1 H1 _ g1 h1 vs rvs => by
    obtain ⟨x, v, rfl, rfl, r1⟩ := RL.one h1.nb rvs
    cases x with
    | lst ys =>
      cases r1 with
      | lst q1 q2 => exact ⟨_, _, rfl, Same.sqL h1.sub q1, h1.done _ (wk_enum q1 q2)⟩
    | _ => exact (h1.nb rfl).elim⟩
end
/-! ### for -/
def loopR {S B T : Type} (step : S → D → Res (Out S S T)) : List D → S → Res (Out S B T)
  | [], s => .ok (.nx s)
  | x :: xs, s => step s x >>= fun
    | .nx s' => loopR step xs s'
    | .ct s' => loopR step xs s'
    | .bk s' => .ok (.nx s')
    | .rt r => .ok (.rt r)
@[simp] theorem loopR_nil {S B T : Type} (step : S → D → Res (Out S S T)) (s : S) : (loopR step [] s : Res (Out S B T)) = .ok (.nx s) := rfl
section
variable {X : Cx} {ca : Nat → Addr} {S B T : Type} {W : WX} {ρ ρx : Env} {emb : S → Env} {embB : B → Env} {out : T → O} {tg iter : Expr} {body rest : List Stmt} {pos : Pos} {mi : Res (List D)} {step : S → D → Res (Out S S T)} {s0 : S}
/-- the body's reading, for any target -/
theorem s_for {g : TG} {tb : TS} (hp : PassesOwn (model X.prog X.w) X.A X.env X.xe) (hc : X.calm = true) (hi : PI X tg iter (tIt X.K ca W ρ mi)) (hg : PG X tg g) (hb : PSs X body tb) (le : Env.le ρx ρ) (le0 : Env.le (emb s0) ρ)
    (turn : ∀ (s : S) (x : D) (D : Ends) (G H : Hp) (σ : L2.St) (f : Nat → AS) (v : V), EnvOk X.K ca G H σ (emb s) f → R X.K ca G v x → So X.K ca W ρx emb emb out D G H (All f) (step s x) → g v σ H fun σ2 H2 => tb D σ2 H2)
    (hs : ∀ x, foldedSetIterable iter X.env x = pure x := by intro _; rfl) : PS X (.For tg iter body [] pos) (tS X.K ca W ρx emb embB out ρ (mi >>= fun xs => loopR step xs s0)) :=
  PS.of (ps_for hp hc hi hg hb hs) fun D0 σ H ⟨G, f, E, hq⟩ => ⟨H, G, hq.expr E le fun xs G1 H1 ex g1 E1 h1 J wk => by
    refine ⟨fun i m σ' H' => m = xs.length - i ∧ i ≤ xs.length ∧ ∃ s G' f', EnvOk X.K ca G' H' σ' (emb s) f' ∧ Same G1 G' ∧ So X.K ca W ρx emb embB out D0 G' H' (All f') (loopR step (xs.drop i) s),
      ⟨xs.length, rfl, Nat.zero_le _, s0, G1, f, E1.weak le0, Same.refl _, h1⟩, ?_⟩
    rintro i m σ' H' ⟨rfl, hi', s, G', f', E', sG, hq'⟩
    by_cases hlt : i < xs.length
    · refine .inr ⟨wk.go i H' (sG.trans E'.sub) hlt, fun σ2 H2 => ∃ s2 G2 f2, EnvOk X.K ca G2 H2 σ2 (emb s2) f2 ∧ Same G1 G2 ∧ So X.K ca W ρx emb embB out D0 G2 H2 (All f2) (loopR step (xs.drop (i + 1)) s2), fun σ2 H2 n2 => ⟨xs.length - (i + 1), by omega, rfl, hlt, n2⟩, fun v H2 y => ?_⟩
      obtain ⟨d, G2, e1, gb, rv⟩ := wk.yld i H' G' H' v H2 sG (Same.refl _) E'.sub hlt y
      have hf : ∀ i a, f' i a → ∃ u, H' a = some u := fun i a q => (E'.out i a q).2
      have E2 := E'.gb hf gb
      have ed : xs.drop i = d :: xs.drop (i + 1) := by
        rw [List.drop_eq_getElem_cons hlt]
        have := (List.getElem?_eq_some_iff.mp e1).2
        rw [this]
      rw [ed] at hq'
      have hq2 := hq'.on (Evo.of_grow gb.grow : Evo G' H' (All f') G2 H2 (All f'))
      refine turn s d _ G2 H2 σ' f' v E2 rv ⟨fun z => hq2.nb (by simp only [loopR, z]; rfl), fun s2 z σ3 G3 H3 f3 v3 E3 => ?_, fun s2 z σ3 G3 H3 f3 v3 E3 => ?_, fun s2 z σ3 G3 H3 f3 v3 E3 => ?_, fun r z => hq2.rt r (by simp only [loopR, z]; rfl), fun c z => hq2.ex c (by simp only [loopR, z]; rfl)⟩
      · exact ⟨s2, G3, f3, E3, (sG.trans gb.g).trans v3.g, So.step (m := step s d) (a := .nx s2) hq2 z v3⟩
      · exact hq2.nx s2 (by simp only [loopR, z]; rfl) σ3 G3 H3 f3 v3 E3
      · exact ⟨s2, G3, f3, E3, (sG.trans gb.g).trans v3.g, So.step (m := step s d) (a := .ct s2) hq2 z v3⟩
    · have ei : i = xs.length := by omega
      refine .inl ⟨wk.stop i H' (sG.trans E'.sub) ei, ?_⟩
      have ed : xs.drop i = [] := by rw [ei]; exact List.drop_length
      rw [ed] at hq'
      exact hq'.nx s rfl σ' G' H' f' (.refl E'.sub) E'⟩
/-- the target a name -/
theorem s_forN {i : Nat} {n : Str} {p : Pos} (hp : PassesOwn (model X.prog X.w) X.A X.env X.xe) (hc : X.calm = true) (hi : PI X (.Name n p) iter (tIt X.K ca W ρ mi)) (hN : X.N.Nodup) (hn : X.N[i]? = some n) (hx : Loc X.env.scope n) (le : Env.le ρx ρ) (le0 : Env.le (emb s0) ρ)
    (hb : ∀ s x, PSs X body (tS X.K ca W ρx emb emb out ((emb s).set i (some (.d x))) (step s x)))
    (hs : ∀ x, foldedSetIterable iter X.env x = pure x := by intro _; rfl) (hf : X.fn n = true ∨ X.env.scope.names.lookup n = some .local := by first | exact .inl rfl | exact .inr rfl | assumption) :
    PS X (.For (.Name n p) iter body [] pos) (tS X.K ca W ρx emb embB out ρ (mi >>= fun xs => loopR step xs s0)) := by
  refine s_for (g := gName i) (tb := fun D σ H => ∃ s x σ0 v G f, σ = σ0.set i (some v) ∧ EnvOk X.K ca G H σ0 (emb s) f ∧ R X.K ca G v x ∧ So X.K ca W ρx emb emb out D G H (All f) (step s x)) hp hc hi (pg_name hN hn hx hf) ?_ le le0 (fun s x D G H σ f v E r h => ⟨s, x, σ, v, G, f, rfl, E, r, h⟩) hs
  refine ⟨fun pins s0 σ H D I ⟨s, x, σ0, v, G, f, es, E, r, h⟩ => (hb s x).run pins s0 σ H D I ?_⟩
  subst es
  have hl := I.len
  rw [List.length_set] at hl
  have hiσ : i < σ0.length := by rw [hl]; exact (List.getElem?_eq_some_iff.mp hn).1
  exact ⟨G, _, E.put hiσ r, h.on ((Evo.refl E.sub).less fun x z => (all_put z).elim False.elim id)⟩
def un2 {α : Type} (f : D → D → Res α) : D → Res α
  | .tup [a, b] => f a b
  | _ => .bug
def un3 {α : Type} (f : D → D → D → Res α) : D → Res α
  | .tup [a, b, c] => f a b c
  | _ => .bug
@[simp] theorem un2_eq {α : Type} (f : D → D → Res α) (a b : D) : un2 f (.tup [a, b]) = f a b := rfl
@[simp] theorem un3_eq {α : Type} (f : D → D → D → Res α) (a b c : D) : un3 f (.tup [a, b, c]) = f a b c := rfl
theorem un2_inv {α : Type} {f : D → D → Res α} {x : D} (h : un2 f x ≠ .bug) : ∃ a b, x = .tup [a, b] := by
  unfold un2 at h
  split at h
  · exact ⟨_, _, rfl⟩
  · exact (h rfl).elim
theorem un3_inv {α : Type} {f : D → D → D → Res α} {x : D} (h : un3 f x ≠ .bug) : ∃ a b c, x = .tup [a, b, c] := by
  unfold un3 at h
  split at h
  · exact ⟨_, _, _, rfl⟩
  · exact (h rfl).elim
theorem s_forT2 {step : S → D → D → Res (Out S S T)} {i j : Nat} {n m : Str} {p q t : Pos} {kk : Nat} (hp : PassesOwn (model X.prog X.w) X.A X.env X.xe) (hc : X.calm = true) (hi : PI X (.Tuple [.Name n p, .Name m q] kk t) iter (tIt X.K ca W ρ mi)) (hN : X.N.Nodup)
    (hn : X.N[i]? = some n) (hx : Loc X.env.scope n) (hm : X.N[j]? = some m) (hy : Loc X.env.scope m) (le : Env.le ρx ρ) (le0 : Env.le (emb s0) ρ)
    (hb : ∀ s x y, PSs X body (tS X.K ca W ρx emb emb out (((emb s).set i (some (.d x))).set j (some (.d y))) (step s x y)))
    (hs : ∀ x, foldedSetIterable iter X.env x = pure x := by intro _; rfl) (hf : X.fn n = true ∨ X.env.scope.names.lookup n = some .local := by first | exact .inl rfl | exact .inr rfl | assumption)
    (hf2 : X.fn m = true ∨ X.env.scope.names.lookup m = some .local := by first | exact .inl rfl | exact .inr rfl | assumption) :
    PS X (.For (.Tuple [.Name n p, .Name m q] kk t) iter body [] pos) (tS X.K ca W ρx emb embB out ρ (mi >>= fun xs => loopR (fun s => un2 (step s)) xs s0)) := by
  refine s_for (g := gTup X.K 2 (gCons (gName i) (gCons (gName j) gNil))) (tb := fun D σ H => ∃ s x y σ0 v w G f, σ = (σ0.set i (some v)).set j (some w) ∧ EnvOk X.K ca G H σ0 (emb s) f ∧ R X.K ca G v x ∧ R X.K ca G w y ∧ So X.K ca W ρx emb emb out D G H (All f) (step s x y)) hp hc hi
    (pg_tup hc (pgs_cons (pg_name hN hn hx hf) (pgs_cons (pg_name hN hm hy hf2) pgs_nil))) ?_ le le0 (fun s x D G H σ f v E r h => ?_) hs
  · refine ⟨fun pins s0 σ H D I ⟨s, x, y, σ0, v, w, G, f, es, E, r, r2, h⟩ => (hb s x y).run pins s0 σ H D I ?_⟩
    subst es
    have hl := I.len
    rw [List.length_set, List.length_set] at hl
    have hiσ : i < σ0.length := by rw [hl]; exact (List.getElem?_eq_some_iff.mp hn).1
    have hjσ : j < (σ0.set i (some v)).length := by rw [List.length_set, hl]; exact (List.getElem?_eq_some_iff.mp hm).1
    have E1 := (E.put hiσ r).put hjσ r2
    exact ⟨G, _, E1, h.on ((Evo.refl E.sub).less fun x z => (all_put z).elim False.elim fun z => (all_put z).elim False.elim id)⟩
  · obtain ⟨a, b, rfl⟩ := un2_inv h.nb
    cases r with
    | tup q1 q2 =>
      cases q2 with
      | cons r1 q2 => cases q2 with
        | cons r2 q2 =>
          cases q2
          exact ⟨_, _, rfl, Same.sqT E.sub q1, rfl, _, _, rfl, _, _, rfl, rfl, s, a, b, σ, _, _, G, f, rfl, E, r1, r2, h⟩
theorem s_forT3 {step : S → D → D → D → Res (Out S S T)} {i j l : Nat} {n m o : Str} {p q u t : Pos} {kk : Nat} (hp : PassesOwn (model X.prog X.w) X.A X.env X.xe) (hc : X.calm = true) (hi : PI X (.Tuple [.Name n p, .Name m q, .Name o u] kk t) iter (tIt X.K ca W ρ mi)) (hN : X.N.Nodup)
    (hn : X.N[i]? = some n) (hx : Loc X.env.scope n) (hm : X.N[j]? = some m) (hy : Loc X.env.scope m) (ho : X.N[l]? = some o) (hz : Loc X.env.scope o) (le : Env.le ρx ρ) (le0 : Env.le (emb s0) ρ)
    (hb : ∀ s x y z, PSs X body (tS X.K ca W ρx emb emb out ((((emb s).set i (some (.d x))).set j (some (.d y))).set l (some (.d z))) (step s x y z)))
    (hs : ∀ x, foldedSetIterable iter X.env x = pure x := by intro _; rfl) (hf : X.fn n = true ∨ X.env.scope.names.lookup n = some .local := by first | exact .inl rfl | exact .inr rfl | assumption)
    (hf2 : X.fn m = true ∨ X.env.scope.names.lookup m = some .local := by first | exact .inl rfl | exact .inr rfl | assumption) (hf3 : X.fn o = true ∨ X.env.scope.names.lookup o = some .local := by first | exact .inl rfl | exact .inr rfl | assumption) :
    PS X (.For (.Tuple [.Name n p, .Name m q, .Name o u] kk t) iter body [] pos) (tS X.K ca W ρx emb embB out ρ (mi >>= fun xs => loopR (fun s => un3 (step s)) xs s0)) := by
  refine s_for (g := gTup X.K 3 (gCons (gName i) (gCons (gName j) (gCons (gName l) gNil)))) (tb := fun D σ H => ∃ s x y z σ0 v w w2 G f, σ = ((σ0.set i (some v)).set j (some w)).set l (some w2) ∧ EnvOk X.K ca G H σ0 (emb s) f ∧ R X.K ca G v x ∧ R X.K ca G w y ∧ R X.K ca G w2 z ∧ So X.K ca W ρx emb emb out D G H (All f) (step s x y z)) hp hc hi
    (pg_tup hc (pgs_cons (pg_name hN hn hx hf) (pgs_cons (pg_name hN hm hy hf2) (pgs_cons (pg_name hN ho hz hf3) pgs_nil)))) ?_ le le0 (fun s x D G H σ f v E r h => ?_) hs
  · refine ⟨fun pins s0 σ H D I ⟨s, x, y, z, σ0, v, w, w2, G, f, es, E, r, r2, r3, h⟩ => (hb s x y z).run pins s0 σ H D I ?_⟩
    subst es
    have hl := I.len
    rw [List.length_set, List.length_set, List.length_set] at hl
    have hiσ : i < σ0.length := by rw [hl]; exact (List.getElem?_eq_some_iff.mp hn).1
    have hjσ : j < (σ0.set i (some v)).length := by rw [List.length_set, hl]; exact (List.getElem?_eq_some_iff.mp hm).1
    have hlσ : l < ((σ0.set i (some v)).set j (some w)).length := by rw [List.length_set, List.length_set, hl]; exact (List.getElem?_eq_some_iff.mp ho).1
    have E1 := ((E.put hiσ r).put hjσ r2).put hlσ r3
    exact ⟨G, _, E1, h.on ((Evo.refl E.sub).less fun x z => (all_put z).elim False.elim fun z => (all_put z).elim False.elim fun z => (all_put z).elim False.elim id)⟩
  · obtain ⟨a, b, c, rfl⟩ := un3_inv h.nb
    cases r with
    | tup q1 q2 =>
      cases q2 with
      | cons r1 q2 => cases q2 with
        | cons r2 q2 => cases q2 with
          | cons r3 q2 =>
            cases q2
            exact ⟨_, _, rfl, Same.sqT E.sub q1, rfl, _, _, rfl, _, _, rfl, _, _, rfl, rfl, s, a, b, c, σ, _, _, _, G, f, rfl, E, r1, r2, r3, h⟩
/-! ### while -/
def whileR {S B T : Type} (test : S → Res Bool) (bodyR : S → Res (Out S S T)) : Nat → S → Res (Out S B T)
  | 0, _ => .bug
  | n + 1, s => test s >>= fun b => if b then bodyR s >>= fun
      | .nx s' => whileR test bodyR n s'
      | .ct s' => whileR test bodyR n s'
      | .bk s' => .ok (.nx s')
      | .rt r => .ok (.rt r)
    else .ok (.nx s)
theorem _root_.L2.PT.any {X : Cx} {ι : Type} {e : Expr} {t : ι → TT} (h : ∀ i, PT X e (t i)) : PT X e (fun σ H Q => ∃ i, t i σ H Q) := ⟨fun pins s σ H Q I ⟨i, q⟩ => (h i).run pins s σ H Q I q⟩
theorem s_while {test : Expr} {mt : S → Res Bool} {mb : S → Res (Out S S T)} {fuel : Nat} (hp : PassesOwn (model X.prog X.w) X.A X.env X.xe) (ht : ∀ s, PT X test (tB X.K ca W (emb s) (mt s))) (hb : ∀ s, PSs X body (tS X.K ca W ρx emb emb out (emb s) (mb s))) (lx : ∀ s, Env.le ρx (emb s)) (le0 : Env.le (emb s0) ρ) :
    PS X (.While test body [] pos) (tS X.K ca W ρx emb embB out ρ (whileR mt mb fuel s0)) :=
  PS.of (ps_while hp (L2.PT.any ht) (PSs.any hb)) fun D0 σ H ⟨G, f, E, hq⟩ => by
    refine ⟨fun m σ' H' => ∃ s G' f', EnvOk X.K ca G' H' σ' (emb s) f' ∧ So X.K ca W ρx emb embB out D0 G' H' (All f') (whileR mt mb m s), ⟨fuel, s0, G, f, E.weak le0, hq⟩, ?_⟩
    rintro m σ' H' ⟨s, G', f', E', h'⟩
    cases m with
    | zero => exact (h'.nb rfl).elim
    | succ m =>
      refine ⟨s, H', G', So.expr h' E' (lx s) fun b G1 H1 eb g1 E1 h1 => ?_⟩
      cases b with
      | true =>
        refine ⟨fun σ2 H2 => ∃ s2 G2 f2, EnvOk X.K ca G2 H2 σ2 (emb s2) f2 ∧ So X.K ca W ρx emb embB out D0 G2 H2 (All f2) (whileR mt mb m s2), fun σ2 H2 n2 => ⟨m, Nat.lt_succ_self _, n2⟩, s, G1, f', E1, ?_⟩
        refine ⟨fun z => h1.nb (by rw [z]; rfl), fun s2 z σ3 G3 H3 f3 v3 E3 => ⟨s2, G3, f3, E3, h1.step z v3⟩, fun s2 z σ3 G3 H3 f3 v3 E3 => ?_, fun s2 z σ3 G3 H3 f3 v3 E3 => ⟨s2, G3, f3, E3, h1.step z v3⟩, fun r z => h1.rt r (by rw [z]; rfl), fun c z => h1.ex c (by rw [z]; rfl)⟩
        exact h1.nx s2 (by rw [z]; rfl) σ3 G3 H3 f3 v3 E3
      | false => exact h1.nx s rfl σ' G1 H1 f' (.refl E1.sub) E1
end
end Lk
namespace Lk
open PySem PySem.Spec PyProof.Rows L2
/-! ### comprehensions -/
/-- nothing may be raised within -/
def Res.nox {α : Type} : Res α → Res α
  | .ok a => .ok a
  | _ => .bug
@[simp] theorem nox_ok {α : Type} (a : α) : Res.nox (.ok a) = .ok a := rfl
@[simp] theorem nox_bug {α : Type} : Res.nox (.bug : Res α) = .bug := rfl
def compR (F : D → Res (Option D)) : List D → Res (List D)
  | [] => .ok []
  | x :: xs => Res.nox (F x) >>= fun o => compR F xs >>= fun ys => .ok (match o with | some y => y :: ys | none => ys)
def mapR (F : D → Res D) : List D → Res (List D)
  | [] => .ok []
  | x :: xs => Res.nox (F x) >>= fun y => mapR F xs >>= fun ys => .ok (y :: ys)
@[simp] theorem compR_nil (F : D → Res (Option D)) : compR F [] = .ok [] := rfl
@[simp] theorem mapR_nil (F : D → Res D) : mapR F [] = .ok [] := rfl
theorem mapR_comp (F : D → Res D) : ∀ xs, mapR F xs = compR (fun x => F x >>= fun y => .ok (some y)) xs
  | [] => rfl
  | x :: xs => by
    simp only [mapR, compR, mapR_comp F xs]
    cases F x <;> rfl
theorem compR_ok {F : D → Res (Option D)} : ∀ {xs : List D}, compR F xs ≠ .bug → ∃ ys, compR F xs = .ok ys
  | [], _ => ⟨[], rfl⟩
  | x :: xs, h => by
    cases e : Res.nox (F x) with
    | bug => exact (h (by simp only [compR, e]; rfl)).elim
    | exc c => cases q : F x <;> rw [q] at e <;> cases e
    | ok o =>
      obtain ⟨ys, q⟩ := compR_ok (F := F) (xs := xs) (fun z => h (by simp only [compR, e, z]; rfl))
      exact ⟨_, by simp only [compR, e, q]; rfl⟩
theorem mapR_map {F : D → Res D} {g : D → D} : ∀ {xs : List D}, (∀ x ∈ xs, F x = .ok (g x)) → mapR F xs = .ok (xs.map g)
  | [], _ => rfl
  | x :: xs, h => by
    simp only [mapR, h x List.mem_cons_self, mapR_map (F := F) (g := g) fun y hy => h y (List.mem_cons_of_mem _ hy)]
    rfl
def lcSize (xs : List D) : Res (List D) := if xs.length ≤ 100000 then .ok xs else .bug
theorem lcSize_ok {xs : List D} (h : xs.length ≤ 100000) : lcSize xs = .ok xs := if_pos h
theorem wipe_get {σ : L2.St} {i : Nat} : ∀ {vs : List Nat}, i ∉ vs → (wipe σ vs)[i]? = σ[i]?
  | [], _ => rfl
  | v :: vs, h => by
    unfold wipe
    rw [List.getElem?_set_ne (fun e => h (by rw [e]; exact List.mem_cons_self))]
    exact wipe_get fun z => h (List.mem_cons_of_mem _ z)
theorem wipe_at {σ : L2.St} {i : Nat} : ∀ {vs : List Nat}, i ∈ vs → (wipe σ vs)[i]? = if i < σ.length then some none else none
  | v :: vs, h => by
    unfold wipe
    by_cases e : v = i
    · subst e
      rw [List.getElem?_set]
      simp [wipe_length]
    · rw [List.getElem?_set_ne e]
      exact wipe_at ((List.mem_cons.mp h).resolve_left (Ne.symm e))
/-- what changes at wiped slots alone is the same when wiped -/
theorem wipe_eq {σ τ : L2.St} {vs : List Nat} (hl : τ.length = σ.length) (h : ∀ i, i ∉ vs → τ[i]? = (wipe σ vs)[i]?) : wipe τ vs = wipe σ vs := by
  refine List.ext_getElem? fun i => ?_
  by_cases hi : i ∈ vs
  · rw [wipe_at hi, wipe_at hi, hl]
  · rw [wipe_get hi, h i hi]
def clearE (ρ : Env) (vs : List Nat) : Bool := vs.all fun j => match ρ[j]? with | some (some _) => false | _ => true
theorem clearE_not {ρ : Env} {vs : List Nat} (h : clearE ρ vs = true) {i : Nat} {o : O} (e : ρ[i]? = some (some o)) : i ∉ vs := fun hi => by
  have q := List.all_eq_true.mp h i hi
  simp only [e] at q
  cases q
section
variable {X : Cx} {ca : Nat → Addr} {W : WX} {ρ : Env} {tg iter elt : Expr} {ifs : List Expr} {scope : Scope} {own : List (Str × Nat)} {pos : Pos} {mi : Res (List D)} {F : D → Res (Option D)}
abbrev W0 : WX := fun _ _ _ _ => False
theorem EnvOk.wiped {K : PySem.W.Frag} {G H : Hp} {σ : L2.St} {f : Nat → AS} {vs : List Nat} (E : EnvOk K ca G H σ ρ f) (hc : clearE ρ vs = true) : EnvOk K ca G H (wipe σ vs) ρ f :=
  ⟨E.sub, fun i o h => by
    obtain ⟨v, q1, q2⟩ := E.slot i o h
    exact ⟨v, by rw [wipe_get (clearE_not hc h)]; exact q1, q2⟩, E.sep, E.out⟩
/-- the reading of a comprehension's turn -/
def LcTurn (X : Cx) (ca : Nat → Addr) (ρ : Env) (vs : List Nat) (g : TG) (tt : TT) (te : TE) (F : D → Res (Option D)) : Prop :=
  ∀ (σ : L2.St) (x : D) (G H : Hp) (f : Nat → AS) (v : V) (Ky : V → Hp → Prop) (Kn : Hp → Prop), σ.length = X.N.length → EnvOk X.K ca G H (wipe σ vs) ρ f → R X.K ca G v x → Res.nox (F x) ≠ .bug →
    (∀ y G' H', Res.nox (F x) = .ok (some y) → Gb H G H G' H' → ∀ w, R X.K ca G' w y → Ky w H') → (∀ G' H', Res.nox (F x) = .ok none → Gb H G H G' H' → Kn H') →
    g v (wipe σ vs) H fun σ2 H2 => wipe σ2 vs = wipe σ vs ∧ tt σ2 H2 fun b H3 => if b = true then te σ2 H3 fun y H4 => Ky y H4 else Kn H3
theorem lc_read {g : TG} {tt : TT} {te : TE} {vs : List Nat} {ρi : Env} (lei : Env.le ρi ρ) (tn : LcTurn X ca ρi vs g tt te F) (hc : clearE ρi vs = true) {σ : L2.St} {H : Hp} {Q : VK} (hl : σ.length = X.N.length)
    (hq : tL X.K ca W ρ (mi >>= fun xs => lcSize xs >>= fun xs => compR F xs) σ H Q) : tLc (tIt X.K ca W ρ mi) g tt te vs σ H Q := by
  obtain ⟨Hb, G, h⟩ := hq
  refine ⟨Hb, G, h.cut fun xs G1 H1 ex g1 h1 J wk Dd hD => ?_⟩
  have hz : xs.length ≤ 100000 := by
    by_cases hz : xs.length ≤ 100000
    · exact hz
    · exact (h1.nb (by unfold lcSize; rw [if_neg hz]; rfl)).elim
  rw [lcSize_ok hz] at h1
  obtain ⟨ys, ey⟩ := compR_ok h1.nb
  obtain ⟨f, E, hf⟩ := h1.env
  have gD : G1 Dd = none := h1.sub.free hD
  refine ⟨fun i m H' => m = xs.length - i ∧ i ≤ xs.length ∧ ∃ G' acc rest us, Gb Hb G1 H1 G' H' ∧ compR F (xs.drop i) = .ok rest ∧ acc ++ rest = ys ∧ acc.length ≤ i ∧ H' Dd = some (.lst us) ∧ RL X.K ca G' us acc ∧ G' Dd = none,
    ⟨xs.length, rfl, Nat.zero_le _, G1, [], ys, [], Gb.own h1.sub hD, ey, rfl, Nat.le_refl _, upd_same, .nil, gD⟩, ?_⟩
  rintro i m H' ⟨rfl, hi, G', acc, rest, us, gb, er, ea, la, hu, rl, gd⟩
  by_cases hlt : i < xs.length
  · refine .inr ⟨wk.go i H' (gb.g.trans gb.sub) hlt, fun H'' => i + 1 ≤ xs.length ∧ ∃ G' acc rest us, Gb Hb G1 H1 G' H'' ∧ compR F (xs.drop (i + 1)) = .ok rest ∧ acc ++ rest = ys ∧ acc.length ≤ i + 1 ∧ H'' Dd = some (.lst us) ∧ RL X.K ca G' us acc ∧ G' Dd = none,
      fun H'' n => ⟨xs.length - (i + 1), by omega, rfl, n.1, n.2⟩, fun v H2 y => ?_⟩
    obtain ⟨d, G2, e1, gb2, rv⟩ := wk.yld i H' G' H' v H2 gb.g (Same.refl _) gb.sub hlt y
    have sb' : Same Hb H' := h1.sb.trans gb.h
    have gb2' : Gb Hb G' H' G2 H2 := Gb.of sb' gb2.grow
    have E2 : EnvOk X.K ca G2 H2 σ ρi f := (E.gb hf (gb.trans gb2')).weak lei
    have ed : xs.drop i = d :: xs.drop (i + 1) := by
      rw [List.drop_eq_getElem_cons hlt]
      have := (List.getElem?_eq_some_iff.mp e1).2
      rw [this]
    rw [ed] at er
    have gd2 : G2 Dd = none := by
      cases q : G2 Dd with
      | none => rfl
      | some o =>
        rcases gb2.new Dd o q with z | z
        · rw [gd] at z; cases z
        · rw [hu] at z; cases z
    have nb : Res.nox (F d) ≠ .bug := fun z => by
      simp only [compR, z] at er
      cases er
    refine tn σ d G2 H2 f v _ _ hl (E2.wiped hc) rv nb (fun y G3 H3 ef gb3 w rw' => ?_) (fun G3 H3 ef gb3 => ?_)
    · simp only [compR, ef] at er
      cases q : compR F (xs.drop (i + 1)) with
      | bug => rw [q] at er; cases er
      | exc c => rw [q] at er; cases er
      | ok r2 =>
        rw [q] at er
        have er' : y :: r2 = rest := Res.ok.inj er
        subst er'
        have hu3 : H3 Dd = some (.lst us) := gb3.h _ _ (gb2.h _ _ hu)
        have gd3 : G3 Dd = none := by
          cases q : G3 Dd with
          | none => rfl
          | some o =>
            rcases gb3.new Dd o q with z | z
            · rw [gd2] at z; cases z
            · rw [gb2.h _ _ hu] at z; cases z
        have gb4 : Gb Hb G1 H1 G3 H3 := (gb.trans gb2').trans (Gb.of (sb'.trans gb2.h) gb3.grow)
        refine ⟨us, hu3, Nat.lt_of_le_of_lt (by rw [rl.length]; omega) (Nat.lt_of_lt_of_le (by omega : xs.length < 100001) (by decide)), hlt, G3, acc ++ [y], r2, us ++ [w], ?_, rfl, by rw [← ea, List.append_assoc]; rfl, by rw [List.length_append, List.length_singleton]; omega, upd_same, (rl.mono (gb2.g.trans gb3.g)).append (.cons rw' .nil), gd3⟩
        refine ⟨gb4.g, fun a u z => ?_, fun a u z => ?_, gb4.new⟩
        · rw [upd_ne (ne_of_none z gd3)]; exact gb4.sub a u z
        · rw [upd_ne (ne_of_none z hD)]; exact gb4.h a u z
    · simp only [compR, ef] at er
      cases q : compR F (xs.drop (i + 1)) with
      | bug => rw [q] at er; cases er
      | exc c => rw [q] at er; cases er
      | ok r2 =>
        rw [q] at er
        have er' : r2 = rest := Res.ok.inj er
        subst er'
        have gd3 : G3 Dd = none := by
          cases q : G3 Dd with
          | none => rfl
          | some o =>
            rcases gb3.new Dd o q with z | z
            · rw [gd2] at z; cases z
            · rw [gb2.h _ _ hu] at z; cases z
        exact ⟨hlt, G3, acc, r2, us, (gb.trans gb2').trans (Gb.of (sb'.trans gb2.h) gb3.grow), rfl, ea, by omega, gb3.h _ _ (gb2.h _ _ hu), rl.mono (gb2.g.trans gb3.g), gd3⟩
  · have ei : i = xs.length := by omega
    refine .inl ⟨wk.stop i H' (gb.g.trans gb.sub) ei, ?_⟩
    have ed : xs.drop i = [] := by rw [ei]; exact List.drop_length
    rw [ed] at er
    have er' : [] = rest := Res.ok.inj er
    subst er'
    rw [List.append_nil] at ea
    subst ea
    exact h1.ok acc ey G' H' gb Dd us (h1.sb.free hD) gd hu rl
/-! a name is the target -/
variable {i : Nat} {n y : Str} {p : Pos} {mt : D → Res Bool} {me : D → Res D} {j : Nat}
def lcF (mt : D → Res Bool) (me : D → Res D) : D → Res (Option D) := fun x => mt x >>= fun b => if b then me x >>= fun y => .ok (some y) else .ok none
theorem turnN (hi : i < X.N.length) {vs : List Nat} (hv : i ∈ vs) : LcTurn X ca ρ vs (gName i) (fun σ H Q => ∃ x, tB X.K ca W0 (ρ.set i (some (.d x))) (mt x) σ H Q) (fun σ H Q => ∃ x, tD X.K ca W0 (ρ.set i (some (.d x))) (me x) σ H Q) (lcF mt me) := by
  intro σ x G H f v Ky Kn hl E r nb ky kn
  have hiσ : i < (wipe σ vs).length := by rw [wipe_length, hl]; exact hi
  have E1 := E.put hiσ r
  have hf : ∀ k a, (if k = i then none_ else f k) a → ∃ u, H a = some u := fun k a q => (E1.out k a q).2
  refine ⟨wipe_eq (by rw [List.length_set, wipe_length]) fun k hk => by rw [List.getElem?_set_ne (fun e => hk (by rw [← e]; exact hv))], x, H, G, ?_⟩
  have C : Cr X.K ca W0 (ρ.set i (some (.d x))) ((wipe σ vs).set i (some v)) H G H (mt x >>= fun b => if b then me x >>= fun y => .ok (some y) else .ok none) (fun o G' H' => match o with | some y => ∀ w, R X.K ca G' w y → Ky w H' | none => Kn H') := by
    refine ⟨Same.refl _, ⟨_, E1, hf⟩, fun e => nb (by unfold lcF; rw [e]; rfl), fun o e G' H' gb => ?_, fun c e => (nb (by unfold lcF; rw [e]; rfl)).elim⟩
    cases o with
    | some y => exact fun w rw' => ky y G' H' (by unfold lcF; rw [e]; rfl) gb w rw'
    | none => exact kn G' H' (by unfold lcF; rw [e]; rfl) gb
  exact C.cut fun b G1 H1 eb g1 h1 => by
    cases b with
    | true => exact ⟨x, H, G1, Cr.cut h1 fun z G2 H2 ez g2 h2 w rw' => h2.done w rw'⟩
    | false => exact h1.done
theorem e_lcN (hc : X.calm = true) (hN : X.N.Nodup) (hi : PI X (.Name n p) iter (tIt X.K ca W ρ mi)) (hn : X.N[i]? = some n) (ok : BlkOk X.N X.env.scope scope own) {ρi : Env} (lei : Env.le ρi ρ) (hcl : clearE ρi (own.map (·.2)) = true) (hv : i ∈ own.map (·.2))
    (hg : ∀ (s : Shared) (H : Hp) (C : Addr) (cl : List (Str × Addr)) (fp : List Addr), PG (X.blk s H scope (compEnvC scope cl C X.env) fp) (.Name n p) (gName i))
    (ht : ∀ (x : D) (s : Shared) (H : Hp) (C : Addr) (cl : List (Str × Addr)) (fp : List Addr), PTs (X.blk s H scope (compEnvC scope cl C X.env) fp) ifs (tB X.K ca W0 (ρi.set i (some (.d x))) (mt x)))
    (he : ∀ (x : D) (s : Shared) (H : Hp) (C : Addr) (cl : List (Str × Addr)) (fp : List Addr), PE (X.blk s H scope (compEnvC scope cl C X.env) fp) elt (tD X.K ca W0 (ρi.set i (some (.d x))) (me x)))
    (hs : ∀ x, foldedSetIterable iter X.env x = pure x := by intro _; rfl) :
    PE X (.ListComp elt [⟨.Name n p, iter, ifs, 0⟩] scope pos) (tL X.K ca W ρ (mi >>= fun xs => lcSize xs >>= fun xs => compR (lcF mt me) xs)) := by
  refine ⟨fun pins s σ H Q I h => ?_⟩
  refine (pe_lc (tt := fun σ H Q => ∃ x, tB X.K ca W0 (ρi.set i (some (.d x))) (mt x) σ H Q) (te := fun σ H Q => ∃ x, tD X.K ca W0 (ρi.set i (some (.d x))) (me x) σ H Q) hc hN hi ok hg (fun s H C cl fp => ⟨fun pins s σ H Q I ⟨x, q⟩ => (ht x _ _ C cl fp).run pins s σ H Q I q⟩) (fun s H C cl fp => ⟨fun pins s σ H Q I ⟨x, q⟩ => (he x _ _ C cl fp).run pins s σ H Q I q⟩) hs).run pins s σ H Q I ?_
  exact lc_read lei (turnN (List.getElem?_eq_some_iff.mp hn).1 hv) hcl I.len h
/-- y = [..], y a local name -/
theorem s_setLcN {S B T : Type} {emb : S → Env} {embB : B → Env} {out : T → O} {ρx : Env} {rest : List Stmt} {py spos : Pos} {k : List D → Res (Out S B T)} (hc : X.calm = true) (hN : X.N.Nodup) (hy : X.N[j]? = some y) (hyl : X.env.scope.names.lookup y = some .local)
    (hsw : swapsWith (.ListComp elt [⟨.Name n p, iter, ifs, 0⟩] scope pos) (some (.Name y py)) spos.line X.env = pure true)
    (hi : PI X (.Name n p) iter (tIt X.K ca W ρ mi)) (hn : X.N[i]? = some n) (ok : BlkOk X.N X.env.scope scope own) {ρi : Env} (lei : Env.le ρi ρ) (hcl : clearE ρi (own.map (·.2)) = true) (hv : i ∈ own.map (·.2)) (le : Env.le ρx ρ)
    (hg : ∀ (s : Shared) (H : Hp) (C : Addr) (cl : List (Str × Addr)) (fp : List Addr), PG (X.blk s H scope (compEnvC scope cl C X.env) fp) (.Name n p) (gName i))
    (ht : ∀ (x : D) (s : Shared) (H : Hp) (C : Addr) (cl : List (Str × Addr)) (fp : List Addr), PTs (X.blk s H scope (compEnvC scope cl C X.env) fp) ifs (tB X.K ca W0 (ρi.set i (some (.d x))) (mt x)))
    (he : ∀ (x : D) (s : Shared) (H : Hp) (C : Addr) (cl : List (Str × Addr)) (fp : List Addr), PE (X.blk s H scope (compEnvC scope cl C X.env) fp) elt (tD X.K ca W0 (ρi.set i (some (.d x))) (me x)))
    (h : ∀ a, PSs X rest (tS X.K ca W ρx emb embB out (ρ.set j (some (.ol a))) (k a)))
    (hs : ∀ x, foldedSetIterable iter X.env x = pure x := by intro _; rfl) :
    PSs X (.Assign [.Name y py] (.ListComp elt [⟨.Name n p, iter, ifs, 0⟩] scope pos) spos :: rest) (tS X.K ca W ρx emb embB out ρ ((mi >>= fun xs => lcSize xs >>= fun xs => compR (lcF mt me) xs) >>= k)) :=
  PSs.ofI (pss_cons (ps_setLc (tt := fun σ H Q => ∃ x, tB X.K ca W0 (ρi.set i (some (.d x))) (mt x) σ H Q) (te := fun σ H Q => ∃ x, tD X.K ca W0 (ρi.set i (some (.d x))) (me x) σ H Q) hc hN hy hyl hsw hi ok hg (fun s H C cl fp => ⟨fun pins s σ H Q I ⟨x, q⟩ => (ht x _ _ C cl fp).run pins s σ H Q I q⟩) (fun s H C cl fp => ⟨fun pins s σ H Q I ⟨x, q⟩ => (he x _ _ C cl fp).run pins s σ H Q I q⟩) hs) (PSs.any h)) fun D0 σ H hl ⟨G, f, E, hq⟩ =>
    lc_read (Q := fun v H1 => ∃ a, tS X.K ca W ρx emb embB out (ρ.set j (some (.ol a))) (k a) D0 (σ.set j (some v)) H1) lei (turnN (List.getElem?_eq_some_iff.mp hn).1 hv) hcl hl ⟨H, G, So.expr hq E le fun a G1 H1 ea g E1 h1 p vs hp gp hh rl => by
      have hiσ : j < σ.length := by rw [hl]; exact (List.getElem?_eq_some_iff.mp hy).1
      have new : ∀ j, ¬ f j p := fun j z => by
        obtain ⟨_, u, q⟩ := E.out j p z
        rw [hp] at q; cases q
      refine ⟨a, G1, _, E1.putL hiσ hh gp new rl, ?_⟩
      exact So.step (a := a) hq ea ⟨g.g, g.sub, fun x o z _ => g.h x o z, fun x o z => (g.new x o z).elim .inl fun q => .inr (.inl q), fun x z => (all_put z).elim (fun q => .inr (by rw [q]; exact hp)) .inl⟩⟩
theorem ts_nil : PTs X [] (tB X.K ca W0 ρ (.ok true)) := ⟨fun pins s σ H Q I ⟨Hb, G, h⟩ => pts_nil.run pins s σ H Q I h.done⟩
theorem ts_one {c : Expr} {m : Res Bool} (h : PT X c (tB X.K ca W0 ρ m)) : PTs X [c] (tB X.K ca W0 ρ m) := pts_one h
@[simp] theorem lcF_yes (me : D → Res D) (x : D) : lcF (fun _ => .ok true) me x = (me x >>= fun y => .ok (some y)) := rfl
theorem lcF_map (me : D → Res D) (xs : List D) : compR (lcF (fun _ => .ok true) me) xs = mapR me xs := by rw [mapR_comp]; rfl
end
/-! ### what a def promises -/
def spD (K : PySem.W.Frag) (ca : Nat → Addr) (F : List D → Res D) : Sp := fun vs H Q E => ∃ G ds, Same G H ∧ RL K ca G vs ds ∧ F ds ≠ .bug ∧
  (∀ d, F ds = .ok d → ∀ G' H', Grow G H G' H' → ∀ v, R K ca G' v d → Q v H') ∧ (∀ c, F ds = .exc c → ∀ G' H', Grow G H G' H' → E (.ref (ca c)) none H')
def spL (K : PySem.W.Frag) (ca : Nat → Addr) (F : List D → Res (List D)) : Sp := fun vs H Q E => ∃ G ds, Same G H ∧ RL K ca G vs ds ∧ F ds ≠ .bug ∧
  (∀ xs, F ds = .ok xs → ∀ G' H', Grow G H G' H' → ∀ p us, H p = none → G' p = none → H' p = some (.lst us) → RL K ca G' us xs → Q (.ref p) H') ∧ (∀ c, F ds = .exc c → ∀ G' H', Grow G H G' H' → E (.ref (ca c)) none H')
/-- a def that can be called: with k levels below, dvs filled up -/
structure Cal (P : Program) (w : World) (K : PySem.W.Frag) (mg : Str → Option Value) (base : Heap) (n : Str) (k : Nat) (sp : Sp) (dvs : List V) : Prop where
  ex : ∃ (f : Addr) (fd : FuncData) (ps : List Str) (ds : List Value), FnOk P w K mg base (L2.CX P w) k f fd ps sp ∧ mg n = some (.ref f) ∧ PySem.W.keepIn K (.ref f) = true ∧ Binds K fd ps ds ∧ Vals dvs ds
theorem Cal.mono {P : Program} {w : World} {K : PySem.W.Frag} {mg : Str → Option Value} {base : Heap} {n : Str} {j k : Nat} {sp : Sp} {dvs : List V} (h : Cal P w K mg base n j sp dvs) (hk : j ≤ k) : Cal P w K mg base n k sp dvs :=
  let ⟨f, fd, ps, ds, a, b⟩ := h.ex
  ⟨f, fd, ps, ds, a.mono hk, b⟩
section
variable {X : Cx} {ca : Nat → Addr} {W : WX} {ρ : Env} {n : Str} {k : Nat} {sp : Sp} {dvs : List V} {e : Expr} {es : List Expr} {p pos : Pos} {mas : Res (List D)}
def tCallSD (sp : Sp) (dvs : List V) (E : L2.St → XK) (t : TA) : TE := fun σ H Q => t σ H fun vs H1 => sp (vs ++ dvs) H1 Q (E σ)
theorem pe_callSD {E : L2.St → XK} {t : TA} (c : Cal X.prog X.w X.K X.mg X.base n k sp dvs) (hr : Room k X.A) (hg : Gl X n) (hx : ∀ σ, PassesAt (L2.CX X.prog X.w) X σ (E σ))
    (ha : PA X (e :: es) t) (hdb : (n == ("__debug__" : Str)) = false := by decide) (he : starEach (e :: es) X.env = (false, eval e X.env) :: starEach es X.env := by rfl) (hpl : (backTo pos (starEach es X.env)).any (·.1) = false := by rfl) :
    PE X (.Call (.Name n p) (e :: es) [] pos) (tCallSD sp dvs E t) := by
  obtain ⟨f, fd, ps, ds, F, hm, hk, hb, hd⟩ := c.ex
  refine ⟨fun pins s σ H Q I h => ?_⟩
  refine wpAny_Call_Name_kw (ld_glob I hg hm ?_ hdb)
  refine PySem.W.callWith_K (h₀ := X.base) I.ok.mod.kin hk (thn (ha.run pos pins s σ H _ I h) fun us s1 ⟨vs, H1, I1, r, q⟩ => ⟨I1.kIn, ?_⟩) he hpl
  have r2 : Vals (vs ++ dvs) (us ++ ds) := r.append hd
  have hl : (us ++ ds).length = ps.length := by rw [← r2.length]; exact F.len _ _ _ _ q
  refine wpAny_call (codeAny_mono (F.run X.A X.stack s1 H1 ⟨us, []⟩ (us ++ ds) (vs ++ dvs) Q (E σ) hr I1.env0 (hb s1 us I1.kIn hl) r2 q) fun r s' hq => ?_)
  cases r with
  | error e => exact hx σ pins H1 s1 e s' I1 hq
  | ok fl =>
    cases fl with
    | ret u => exact I1.after hq
    | next => exact False.elim hq
    | brk => exact False.elim hq
    | cont => exact False.elim hq
/-- f() -/
theorem pe_call0SD {E : L2.St → XK} (c : Cal X.prog X.w X.K X.mg X.base n k sp dvs) (hr : Room k X.A) (hg : Gl X n) (hx : ∀ σ, PassesAt (L2.CX X.prog X.w) X σ (E σ)) (hdb : (n == ("__debug__" : Str)) = false := by decide) :
    PE X (.Call (.Name n p) [] [] pos) (tCallSD sp dvs E tNil) := by
  obtain ⟨f, fd, ps, ds, F, hm, hk, hb, hd⟩ := c.ex
  refine ⟨fun pins s σ H Q I q => ?_⟩
  refine wpAny_Call_Name_kw (ld_glob I hg hm ?_ hdb)
  refine PySem.W.callWith_K0 I.kIn hk ?_
  have hl : (([] : List Value) ++ ds).length = ps.length := by
    rw [List.nil_append, ← hd.length]
    exact F.len _ _ _ _ q
  refine wpAny_call (codeAny_mono (F.run X.A X.stack s H ⟨[], []⟩ ([] ++ ds) ([] ++ dvs) Q (E σ) hr I.env0 (hb s [] I.kIn hl) hd q) fun r s' hq => ?_)
  cases r with
  | error e => exact hx σ pins H s e s' I hq
  | ok fl =>
    cases fl with
    | ret u => exact I.after hq
    | next => exact False.elim hq
    | brk => exact False.elim hq
    | cont => exact False.elim hq
theorem spD_of {K : PySem.W.Frag} {Hb G H : Hp} {σ : L2.St} {F : List D → Res D} {ds : List D} {vs : List V} {Q : VK} (h : Cr K ca W ρ σ Hb G H (F ds) fun d G' H' => ∀ v, R K ca G' v d → Q v H') (r : RL K ca G vs ds) : spD K ca F vs H Q (WE W σ) :=
  ⟨G, ds, h.sub, r, h.nb, fun d e G' H' g v rv => h.ok d e G' H' (Gb.of h.sb g) v rv, fun c e G' H' g => h.ex c e G' H' (Gb.of h.sb g)⟩
theorem spL_of {K : PySem.W.Frag} {Hb G H : Hp} {σ : L2.St} {F : List D → Res (List D)} {ds : List D} {vs : List V} {Q : VK} (h : Cr K ca W ρ σ Hb G H (F ds) fun xs G' H' => ∀ p vs, Hb p = none → G' p = none → H' p = some (.lst vs) → RL K ca G' vs xs → Q (.ref p) H') (r : RL K ca G vs ds) : spL K ca F vs H Q (WE W σ) :=
  ⟨G, ds, h.sub, r, h.nb, fun xs e G' H' g p us hp gp hh rl => h.ok xs e G' H' (Gb.of h.sb g) p us (h.sb.free hp) gp hh rl, fun c e G' H' g => h.ex c e G' H' (Gb.of h.sb g)⟩
theorem e_call {F : List D → Res D} (c : Cal X.prog X.w X.K X.mg X.base n k (spD X.K ca F) []) (hr : Room k X.A) (hg : Gl X n) (tk : Takes X W) (ha : PA X (e :: es) (tArg X.K ca W ρ mas)) (hdb : (n == ("__debug__" : Str)) = false := by decide)
    (he : starEach (e :: es) X.env = (false, eval e X.env) :: starEach es X.env := by rfl) (hpl : (backTo pos (starEach es X.env)).any (·.1) = false := by rfl) : PE X (.Call (.Name n p) (e :: es) [] pos) (tD X.K ca W ρ (mas >>= fun ds => F ds)) :=
  PE.of (pe_callSD (E := WE W) c hr hg (passAt tk) ha hdb he hpl) fun σ H Q ⟨Hb, G, h⟩ => ⟨Hb, G, h.cut fun ds G1 H1 _ g1 h1 vs rvs => by
    show spD X.K ca F (vs ++ []) H1 Q (WE W σ)
    rw [List.append_nil]
    exact spD_of h1 rvs⟩
theorem e_callL {F : List D → Res (List D)} (c : Cal X.prog X.w X.K X.mg X.base n k (spL X.K ca F) []) (hr : Room k X.A) (hg : Gl X n) (tk : Takes X W) (ha : PA X (e :: es) (tArg X.K ca W ρ mas)) (hdb : (n == ("__debug__" : Str)) = false := by decide)
    (he : starEach (e :: es) X.env = (false, eval e X.env) :: starEach es X.env := by rfl) (hpl : (backTo pos (starEach es X.env)).any (·.1) = false := by rfl) : PE X (.Call (.Name n p) (e :: es) [] pos) (tL X.K ca W ρ (mas >>= fun ds => F ds)) :=
  PE.of (pe_callSD (E := WE W) c hr hg (passAt tk) ha hdb he hpl) fun σ H Q ⟨Hb, G, h⟩ => ⟨Hb, G, h.cut fun ds G1 H1 _ g1 h1 vs rvs => by
    show spL X.K ca F (vs ++ []) H1 Q (WE W σ)
    rw [List.append_nil]
    exact spL_of h1 rvs⟩
/-- with defaults filled up -/
theorem e_callD {F : List D → Res D} {dds : List D} (c : Cal X.prog X.w X.K X.mg X.base n k (spD X.K ca F) dvs) (rd : ∀ G, RL X.K ca G dvs dds) (hr : Room k X.A) (hg : Gl X n) (tk : Takes X W) (ha : PA X (e :: es) (tArg X.K ca W ρ mas)) (hdb : (n == ("__debug__" : Str)) = false := by decide)
    (he : starEach (e :: es) X.env = (false, eval e X.env) :: starEach es X.env := by rfl) (hpl : (backTo pos (starEach es X.env)).any (·.1) = false := by rfl) : PE X (.Call (.Name n p) (e :: es) [] pos) (tD X.K ca W ρ (mas >>= fun ds => F (ds ++ dds))) :=
  PE.of (pe_callSD (E := WE W) c hr hg (passAt tk) ha hdb he hpl) fun σ H Q ⟨Hb, G, h⟩ => ⟨Hb, G, h.cut fun ds G1 H1 _ g1 h1 vs rvs => spD_of h1 (rvs.append (rd G1))⟩
theorem e_call0 {F : List D → Res D} (c : Cal X.prog X.w X.K X.mg X.base n k (spD X.K ca F) []) (hr : Room k X.A) (hg : Gl X n) (tk : Takes X W) (hdb : (n == ("__debug__" : Str)) = false := by decide) : PE X (.Call (.Name n p) [] [] pos) (tD X.K ca W ρ (F [])) :=
  PE.of (pe_call0SD (E := WE W) c hr hg (passAt tk) hdb) fun σ H Q ⟨Hb, G, h⟩ => (show spD X.K ca F ([] ++ []) H Q (WE W σ) from spD_of h .nil)
theorem e_call0L {F : List D → Res (List D)} (c : Cal X.prog X.w X.K X.mg X.base n k (spL X.K ca F) []) (hr : Room k X.A) (hg : Gl X n) (tk : Takes X W) (hdb : (n == ("__debug__" : Str)) = false := by decide) : PE X (.Call (.Name n p) [] [] pos) (tL X.K ca W ρ (F [])) :=
  PE.of (pe_call0SD (E := WE W) c hr hg (passAt tk) hdb) fun σ H Q ⟨Hb, G, h⟩ => (show spL X.K ca F ([] ++ []) H Q (WE W σ) from spL_of h .nil)
end
/-! ### a def keeps its promise -/
def fin {S B : Type} (m : Res (Out S B D)) : Res D := m >>= fun
  | .nx _ => .ok .non
  | .rt r => .ok r
  | _ => .bug
def finL {S B : Type} (m : Res (Out S B (List D))) : Res (List D) := m >>= fun
  | .rt r => .ok r
  | _ => .bug
@[simp] theorem fin_rt {S B : Type} (r : D) : fin (S := S) (B := B) (.ok (.rt r)) = .ok r := rfl
@[simp] theorem fin_nx {S B : Type} (s : S) : fin (S := S) (B := B) (.ok (.nx s)) = .ok .non := rfl
@[simp] theorem fin_exc {S B : Type} (c : Nat) : fin (S := S) (B := B) (.exc c) = .exc c := rfl
@[simp] theorem fin_bug {S B : Type} : fin (S := S) (B := B) .bug = .bug := rfl
@[simp] theorem finL_rt {S B : Type} (r : List D) : finL (S := S) (B := B) (.ok (.rt r)) = .ok r := rfl
@[simp] theorem finL_exc {S B : Type} (c : Nat) : finL (S := S) (B := B) (.exc c) = .exc c := rfl
@[simp] theorem finL_bug {S B : Type} : finL (S := S) (B := B) .bug = .bug := rfl
def F0 {α : Type} (m : Res α) : List D → Res α | [] => m | _ => .bug
def F1 {α : Type} (m : D → Res α) : List D → Res α | [a] => m a | _ => .bug
def F2 {α : Type} (m : D → D → Res α) : List D → Res α | [a, b] => m a b | _ => .bug
def F3 {α : Type} (m : D → D → D → Res α) : List D → Res α | [a, b, c] => m a b c | _ => .bug
def F4 {α : Type} (m : D → D → D → D → Res α) : List D → Res α | [a, b, c, d] => m a b c d | _ => .bug
def F5 {α : Type} (m : D → D → D → D → D → Res α) : List D → Res α | [a, b, c, d, e] => m a b c d e | _ => .bug
def F6 {α : Type} (m : D → D → D → D → D → D → Res α) : List D → Res α | [a, b, c, d, e, f] => m a b c d e f | _ => .bug
def F7 {α : Type} (m : D → D → D → D → D → D → D → Res α) : List D → Res α | [a, b, c, d, e, f, g] => m a b c d e f g | _ => .bug
@[simp] theorem F0_eq {α : Type} (m : Res α) : F0 m [] = m := rfl
@[simp] theorem F1_eq {α : Type} (m : D → Res α) (a : D) : F1 m [a] = m a := rfl
@[simp] theorem F2_eq {α : Type} (m : D → D → Res α) (a b : D) : F2 m [a, b] = m a b := rfl
@[simp] theorem F3_eq {α : Type} (m : D → D → D → Res α) (a b c : D) : F3 m [a, b, c] = m a b c := rfl
@[simp] theorem F4_eq {α : Type} (m : D → D → D → D → Res α) (a b c d : D) : F4 m [a, b, c, d] = m a b c d := rfl
@[simp] theorem F5_eq {α : Type} (m : D → D → D → D → D → Res α) (a b c d e : D) : F5 m [a, b, c, d, e] = m a b c d e := rfl
@[simp] theorem F6_eq {α : Type} (m : D → D → D → D → D → D → Res α) (a b c d e f : D) : F6 m [a, b, c, d, e, f] = m a b c d e f := rfl
@[simp] theorem F7_eq {α : Type} (m : D → D → D → D → D → D → D → Res α) (a b c d e f g : D) : F7 m [a, b, c, d, e, f, g] = m a b c d e f g := rfl
theorem F0_inv {α : Type} {m : Res α} {ds : List D} (h : F0 m ds ≠ .bug) : ds = [] := by unfold F0 at h; split at h <;> first | rfl | exact (h rfl).elim
theorem F1_inv {α : Type} {m : D → Res α} {ds : List D} (h : F1 m ds ≠ .bug) : ∃ a, ds = [a] := by unfold F1 at h; split at h <;> first | exact ⟨_, rfl⟩ | exact (h rfl).elim
theorem F2_inv {α : Type} {m : D → D → Res α} {ds : List D} (h : F2 m ds ≠ .bug) : ∃ a b, ds = [a, b] := by unfold F2 at h; split at h <;> first | exact ⟨_, _, rfl⟩ | exact (h rfl).elim
theorem F3_inv {α : Type} {m : D → D → D → Res α} {ds : List D} (h : F3 m ds ≠ .bug) : ∃ a b c, ds = [a, b, c] := by unfold F3 at h; split at h <;> first | exact ⟨_, _, _, rfl⟩ | exact (h rfl).elim
theorem F4_inv {α : Type} {m : D → D → D → D → Res α} {ds : List D} (h : F4 m ds ≠ .bug) : ∃ a b c d, ds = [a, b, c, d] := by unfold F4 at h; split at h <;> first | exact ⟨_, _, _, _, rfl⟩ | exact (h rfl).elim
theorem F5_inv {α : Type} {m : D → D → D → D → D → Res α} {ds : List D} (h : F5 m ds ≠ .bug) : ∃ a b c d e, ds = [a, b, c, d, e] := by unfold F5 at h; split at h <;> first | exact ⟨_, _, _, _, _, rfl⟩ | exact (h rfl).elim
theorem F6_inv {α : Type} {m : D → D → D → D → D → D → Res α} {ds : List D} (h : F6 m ds ≠ .bug) : ∃ a b c d e f, ds = [a, b, c, d, e, f] := by unfold F6 at h; split at h <;> first | exact ⟨_, _, _, _, _, _, rfl⟩ | exact (h rfl).elim
theorem F7_inv {α : Type} {m : D → D → D → D → D → D → D → Res α} {ds : List D} (h : F7 m ds ≠ .bug) : ∃ a b c d e f g, ds = [a, b, c, d, e, f, g] := by unfold F7 at h; split at h <;> first | exact ⟨_, _, _, _, _, _, _, rfl⟩ | exact (h rfl).elim
/-- the names at the entry -/
def rho0 (N : List Str) (ds : List D) : Env := ds.map (fun d => some (.d d)) ++ List.replicate (N.length - ds.length) none
theorem start_ok {K : PySem.W.Frag} {ca : Nat → Addr} {G H : Hp} {N : List Str} (s : Same G H) {ds : List D} {vs : List V} (r : RL K ca G vs ds) : EnvOk K ca G H (L2.start N vs) (rho0 N ds) (fun _ => none_) := by
  refine ⟨s, fun i o h => ?_, fun i j a z => z.elim, fun i a z => z.elim⟩
  unfold rho0 at h
  by_cases hi : i < ds.length
  · rw [List.getElem?_append_left (by rw [List.length_map]; exact hi), List.getElem?_map] at h
    cases e : ds[i]? with
    | none => rw [e] at h; cases h
    | some d =>
      rw [e] at h
      have h' : O.d d = o := Option.some.inj (Option.some.inj h)
      subst h'
      obtain ⟨v, q1, q2⟩ := r.get e
      refine ⟨v, ?_, .d q2⟩
      unfold L2.start
      rw [List.getElem?_append_left (by rw [List.length_map, r.length]; exact hi), List.getElem?_map, q1]
      rfl
  · rw [List.getElem?_append_right (by rw [List.length_map]; omega), List.getElem?_replicate] at h
    split at h <;> cases h
section
variable {P : Program} {w : World} {K : PySem.W.Frag} {mg : Str → Option Value} {base : Heap} {ca : Nat → Addr} {x qual : Str} {params : Arguments} {body : List Stmt} {scope : Scope} {dvs : List V} {kws : List (Str × V)} {f : Addr} {fd : FuncData} {N ps : List Str} {k : Nat}
abbrev WD (E : XK) : WX := fun cls d _ H => E cls d H
theorem def_D {F : List D → Res D} (D0 : FunD K x qual params body scope dvs kws f fd) (Sc : FnScope N ps scope) (hlen : ∀ ds, F ds ≠ .bug → ds.length = ps.length)
    (hb : ∀ (cdv : Value) (A : Around) (outer : List PySem.Env) (s : Shared) (H : Hp) (E : XK) (ds : List D), Room k (A.deeper (envOfC qual scope s.heap.objs.size f cdv)) → F ds ≠ .bug →
      ∃ (S : Type) (emb : S → Lk.Env) (M : Res (Out S Empty D)), PSs (cxOf (L2.CX P w) P w K mg base N qual scope f cdv A outer s H E) body (tS K ca (WD E) [] emb (fun e : Empty => e.elim) O.d (rho0 N ds) M) ∧ fin M = F ds) :
    FnOk P w K mg base (L2.CX P w) (k + 1) f fd ps (spD K ca F) := by
  refine D0.ok Sc (fun vs H Q E ⟨G, ds, _, r, nb, _⟩ => by rw [r.length]; exact hlen ds nb) fun cdv A outer s H vs Q E hr ⟨G, ds, sg, r, nb, q1, q2⟩ => ?_
  obtain ⟨S, emb, M, hp, e⟩ := hb cdv A outer s H E ds hr nb
  refine ⟨_, hp, G, fun _ => none_, start_ok sg r, ?_⟩
  have gr : ∀ {G' H' : Hp} {F2 : AS}, Evo G H (All fun _ => none_) G' H' F2 → Grow G H G' H' := fun {G' H' F2} v => ⟨v.g, v.sub, fun a o z => v.h a o z (fun ⟨_, z⟩ => z), fun a o z => (v.new a o z).elim .inl fun q => q.elim .inr fun ⟨_, z⟩ => z.elim⟩
  refine ⟨fun z => nb (by rw [← e, z]; rfl), fun s2 z σ' G' H' f' v E' => q1 .non (by rw [← e, z]; rfl) G' H' (gr v) .non .non, fun b => b.elim, fun b => b.elim, fun d z v G' H' g ev ow fr => ?_, fun c z σ' G' H' f' v E' => q2 c (by rw [← e, z]; rfl) G' H' (gr v)⟩
  cases ow with
  | d rv => exact q1 d (by rw [← e, z]; rfl) G' H' (gr ev) v rv
theorem def_L {F : List D → Res (List D)} (D0 : FunD K x qual params body scope dvs kws f fd) (Sc : FnScope N ps scope) (hlen : ∀ ds, F ds ≠ .bug → ds.length = ps.length)
    (hb : ∀ (cdv : Value) (A : Around) (outer : List PySem.Env) (s : Shared) (H : Hp) (E : XK) (ds : List D), Room k (A.deeper (envOfC qual scope s.heap.objs.size f cdv)) → F ds ≠ .bug →
      ∃ (S : Type) (emb : S → Lk.Env) (M : Res (Out S Empty (List D))), PSs (cxOf (L2.CX P w) P w K mg base N qual scope f cdv A outer s H E) body (tS K ca (WD E) [] emb (fun e : Empty => e.elim) O.ol (rho0 N ds) M) ∧ finL M = F ds) :
    FnOk P w K mg base (L2.CX P w) (k + 1) f fd ps (spL K ca F) := by
  refine D0.ok Sc (fun vs H Q E ⟨G, ds, _, r, nb, _⟩ => by rw [r.length]; exact hlen ds nb) fun cdv A outer s H vs Q E hr ⟨G, ds, sg, r, nb, q1, q2⟩ => ?_
  obtain ⟨S, emb, M, hp, e⟩ := hb cdv A outer s H E ds hr nb
  refine ⟨_, hp, G, fun _ => none_, start_ok sg r, ?_⟩
  have gr : ∀ {G' H' : Hp} {F2 : AS}, Evo G H (All fun _ => none_) G' H' F2 → Grow G H G' H' := fun {G' H' F2} v => ⟨v.g, v.sub, fun a o z => v.h a o z (fun ⟨_, z⟩ => z), fun a o z => (v.new a o z).elim .inl fun q => q.elim .inr fun ⟨_, z⟩ => z.elim⟩
  refine ⟨fun z => nb (by rw [← e, z]; rfl), fun s2 z => (nb (by rw [← e, z]; rfl)).elim, fun b => b.elim, fun b => b.elim, fun xs z v G' H' g ev ow fr => ?_, fun c z σ' G' H' f' v E' => q2 c (by rw [← e, z]; rfl) G' H' (gr v)⟩
  cases ow with
  | ol hp rl gp =>
    refine q1 xs (by rw [← e, z]; rfl) G' H' (gr ev) _ _ ?_ (fr _ gp).1 hp rl
    exact (ev.own _ gp).elim (fun ⟨_, z⟩ => z.elim) id
end
end Lk
namespace Lk
open PySem PySem.Spec PyProof.Rows L2
/-! ### names of a scope -/
def locB (sc : Scope) (x : Str) : Bool := match sc.names.lookup x with
  | some .local => true
  | some .cell => true
  | _ => false
def glB (sc : Scope) (x : Str) : Bool := match sc.names.lookup x with
  | some .globalImplicit => true
  | _ => false
theorem locB_ok {sc : Scope} {x : Str} (h : locB sc x = true) : Loc sc x := by
  unfold locB at h
  split at h
  · exact .inl (by assumption)
  · exact .inr (by assumption)
  · cases h
theorem glB_ok {sc : Scope} {x : Str} (h : glB sc x = true) : sc.names.lookup x = some .globalImplicit := by
  unfold glB at h
  split at h
  · assumption
  · cases h
theorem Loc.vis {sc : Scope} {x : Str} (h : Loc sc x) : Vis sc x := h.elim .inl fun q => .inr (.inl q)
theorem lo {sc : Scope} {N : List Str} (h : (N.all (locB sc)) = true) (i : Nat) {x : Str} (e : N[i]? = some x) : Loc sc x := locB_ok (List.all_eq_true.mp h x (List.mem_of_getElem? e))
theorem vi {sc : Scope} {N : List Str} (h : (N.all (locB sc)) = true) (i : Nat) {x : Str} (e : N[i]? = some x) : Vis sc x := Loc.vis (lo h i e)
theorem gl {sc : Scope} {N : List Str} (h : (N.all (glB sc)) = true) (i : Nat) {x : Str} (e : N[i]? = some x) : sc.names.lookup x = some .globalImplicit := glB_ok (List.all_eq_true.mp h x (List.mem_of_getElem? e))
/-- no name is a word of the machine's own -/
def dbgB (x : Str) : Bool := !(x == ("__debug__" : Str)) && !(x == ("__classdict__" : Str))
theorem dbg1 {N : List Str} (h : (N.all dbgB) = true) (i : Nat) {x : Str} (e : N[i]? = some x) : (x == ("__debug__" : Str)) = false := by
  have q := List.all_eq_true.mp h x (List.mem_of_getElem? e)
  unfold dbgB at q
  rw [Bool.and_eq_true] at q
  simpa using q.1
theorem dbg2 {N : List Str} (h : (N.all dbgB) = true) (i : Nat) {x : Str} (e : N[i]? = some x) : (x == ("__classdict__" : Str)) = false := by
  have q := List.all_eq_true.mp h x (List.mem_of_getElem? e)
  unfold dbgB at q
  rw [Bool.and_eq_true] at q
  simpa using q.2
/-! ### less known -/
theorem le_s {ρ' ρ : Env} {o : Option O} (h : Env.le ρ' ρ) : Env.le (o :: ρ') (o :: ρ) := fun i => match i with
  | 0 => fun _ q => q
  | i + 1 => fun x q => by simpa using h i x (by simpa using q)
theorem le_n {ρ' ρ : Env} {o : Option O} (h : Env.le ρ' ρ) : Env.le (none :: ρ') (o :: ρ) := fun i => match i with
  | 0 => fun _ q => by simp at q
  | i + 1 => fun x q => by simpa using h i x (by simpa using q)
/-! ### a list of one's own, lent -/
mutual
/-- no list stands in it -/
def D.lf : D → Bool
  | .lst _ => false
  | .tup xs => D.lfL xs
  | .ins _ fs => D.lfF fs
  | _ => true
def D.lfL : List D → Bool
  | [] => true
  | x :: xs => D.lf x && D.lfL xs
def D.lfF : List (Str × D) → Bool
  | [] => true
  | (_, x) :: xs => D.lf x && D.lfF xs
end
def hide (p : Addr) (G : Hp) : Hp := fun a => if a = p then none else G a
theorem hide_ne {p a : Addr} {G : Hp} (h : a ≠ p) : hide p G a = G a := if_neg h
theorem hide_same {p : Addr} {G : Hp} : hide p G p = none := if_pos rfl
section
variable {K : PySem.W.Frag} {ca : Nat → Addr} {G : Hp} {p : Addr} {us : List V}
mutual
theorem R.hide (hp : G p = some (.lst us)) : ∀ {d : D} {v : V}, D.lf d = true → R K ca G v d → R K ca (hide p G) v d
  | .non, _, _, h => by cases h; exact .non
  | .bl _, _, _, h => by cases h; exact .bl _
  | .int _, _, _, h => by cases h; exact .int _
  | .str _, _, _, h => by cases h; exact .str _
  | .lst _, _, l, _ => by simp [D.lf] at l
  | .tup ds, _, l, h => by
    cases h with
    | tup h1 h2 =>
      refine .tup ?_ (RL.hide hp (by simpa [D.lf] using l) h2)
      rcases h1 with (h1 | ⟨o, h1⟩) | h1
      · exact .inl (.inl (by rw [hide_ne (fun e => by rw [e, hp] at h1; cases h1)]; exact h1))
      · exact .inl (.inr ⟨o, by rw [hide_ne (fun e => by rw [e, hp] at h1; cases h1)]; exact h1⟩)
      · exact .inr h1
  | .ins c fs, _, l, h => by
    cases h with
    | ins h1 h2 => exact .ins (by rw [hide_ne (fun e => by rw [e, hp] at h1; cases h1)]; exact h1) (RF.hide hp (by simpa [D.lf] using l) h2)
theorem RL.hide (hp : G p = some (.lst us)) : ∀ {ds : List D} {vs : List V}, D.lfL ds = true → RL K ca G vs ds → RL K ca (hide p G) vs ds
  | [], _, _, h => by cases h; exact .nil
  | d :: ds, _, l, h => by
    have l' := Bool.and_eq_true_iff.mp (show (D.lf d && D.lfL ds) = true by simpa [D.lfL] using l)
    cases h with
    | cons h1 h2 => exact .cons (R.hide hp l'.1 h1) (RL.hide hp l'.2 h2)
theorem RF.hide (hp : G p = some (.lst us)) : ∀ {fs : List (Str × D)} {vs : List (Str × V)}, D.lfF fs = true → RF K ca G vs fs → RF K ca (hide p G) vs fs
  | [], _, _, h => by cases h; exact .nil
  | (n, d) :: ds, _, l, h => by
    have l' := Bool.and_eq_true_iff.mp (show (D.lf d && D.lfF ds) = true by simpa [D.lfF] using l)
    cases h with
    | cons h1 h2 => exact .cons (R.hide hp l'.1 h1) (RF.hide hp l'.2 h2)
end
end
def D.free (d : D) : Res D := if D.lf d = true then .ok d else .bug
@[simp] theorem free_int (i : Int) : D.free (.int i) = .ok (.int i) := rfl
@[simp] theorem free_bl (i : Bool) : D.free (.bl i) = .ok (.bl i) := rfl
@[simp] theorem free_str (i : Str) : D.free (.str i) = .ok (.str i) := rfl
@[simp] theorem free_non : D.free .non = .ok .non := rfl
@[simp] theorem lfL_ints : ∀ ns : List Int, D.lfL (ns.map D.int) = true
  | [] => rfl
  | n :: ns => by simp [D.lfL, D.lf, lfL_ints ns]
def D.freeL (xs : List D) : Res (List D) := if D.lfL xs = true then .ok xs else .bug
section
variable {X : Cx} {ca : Nat → Addr} {W : WX} {ρ : Env} {e : Expr} {i : Nat} {xs : List D} {α : Type}
/-- the state with the list lent -/
theorem lend {K : PySem.W.Frag} {σ : L2.St} {Hb G H : Hp} {m : Res α} {P P2 : α → Hp → Hp → Prop} (ho : ρ[i]? = some (some (.ol xs))) (h : Cr K ca W ρ σ Hb G H m P)
    (hk : ∀ p us a G' H', m = .ok a → G' p = some (.lst us) → P a (hide p G') H' → P2 a G' H') : ∃ G2, Cr K ca W (ρ.set i (some (.d (.lst xs)))) σ Hb G2 H m P2 := by
  obtain ⟨f, E, hf⟩ := h.env
  obtain ⟨p, us, hσ, hp, rl, fp⟩ := E.own ho
  have gp := (E.out i p fp).1
  have s1 : Same G (upd G p (.lst us)) := fun a u z => by rw [upd_ne (ne_of_none z gp)]; exact z
  have s2 : Same (upd G p (.lst us)) H := fun a u z => by
    by_cases e : a = p
    · subst e
      rw [upd_same] at z
      rw [hp]; exact z
    · rw [upd_ne e] at z
      exact E.sub a u z
  have E2 : EnvOk K ca (upd G p (.lst us)) H σ (ρ.set i (some (.d (.lst xs)))) (fun j => if j = i then none_ else f j) := by
    refine ⟨s2, fun j o hj => ?_, fun j k a h1 h2 => ?_, fun j a h1 => ?_⟩
    · by_cases e : j = i
      · subst e
        have hl : j < (ρ.set j (some (.d (.lst xs)))).length := (List.getElem?_eq_some_iff.mp hj).1
        rw [List.length_set] at hl
        rw [List.getElem?_set_self hl] at hj
        cases hj
        exact ⟨_, hσ, .d (.lst (.inl (.inl upd_same)) (rl.mono s1))⟩
      · rw [List.getElem?_set_ne (Ne.symm e)] at hj
        obtain ⟨w, z1, z2⟩ := E.slot j o hj
        exact ⟨w, z1, by simpa [e] using z2.mono s1 fun a u _ z => z⟩
    · by_cases e1 : j = i
      · simp only [e1, if_true] at h1
        exact h1.elim
      · by_cases e2 : k = i
        · simp only [e2, if_true] at h2
          exact h2.elim
        · simp only [e1, e2, if_false] at h1 h2
          exact E.sep j k a h1 h2
    · by_cases e1 : j = i
      · simp only [e1, if_true] at h1
        exact h1.elim
      · simp only [e1, if_false] at h1
        obtain ⟨z1, z2⟩ := E.out j a h1
        refine ⟨?_, z2⟩
        rw [upd_ne (fun z => e1 (E.sep j i a h1 (by rw [z]; exact fp)))]
        exact z1
  have back : ∀ {G' H' : Hp}, Gb Hb (upd G p (.lst us)) H G' H' → Gb Hb G H (hide p G') H' ∧ G' p = some (.lst us) := fun {G' H'} g => by
    refine ⟨⟨fun a u z => ?_, fun a u z => ?_, g.h, fun a u z => ?_⟩, g.g _ _ upd_same⟩
    · have ne : a ≠ p := ne_of_none z gp
      rw [hide_ne ne]
      exact g.g a u (s1 a u z)
    · by_cases e : a = p
      · rw [e, hide_same] at z; cases z
      · rw [hide_ne e] at z
        exact g.sub a u z
    · by_cases e : a = p
      · rw [e, hide_same] at z; cases z
      · rw [hide_ne e] at z
        rcases g.new a u z with q | q
        · rw [upd_ne e] at q
          exact .inl q
        · exact .inr q
  refine ⟨upd G p (.lst us), h.sb, ⟨_, E2, fun j a z => ?_⟩, h.nb, fun a e G' H' g => hk p us a G' H' e (back g).2 (h.ok a e _ H' (back g).1), fun c e G' H' g => h.ex c e _ H' (back g).1⟩
  by_cases e1 : j = i
  · simp only [e1, if_true] at z
    exact z.elim
  · simp only [e1, if_false] at z
    exact hf j a z
/-- an expression that reads a list of one's own -/
theorem e_lend {m : Res D} (ho : ρ[i]? = some (some (.ol xs))) (h : PE X e (tD X.K ca W (ρ.set i (some (.d (.lst xs)))) m)) : PE X e (tD X.K ca W ρ (m >>= fun d => D.free d)) :=
  PE.of h fun σ H Q ⟨Hb, G, hq⟩ => by
    obtain ⟨G2, h2⟩ := lend ho (hq.cut (P := fun d G' H' => D.lf d = true ∧ ∀ v, R X.K ca G' v d → Q v H') fun d G1 H1 e g h1 => by
      by_cases hl : D.lf d = true
      · have ef : D.free d = .ok d := if_pos hl
        rw [ef] at h1
        exact ⟨hl, h1.done⟩
      · exact (h1.nb (if_neg hl)).elim) (P2 := fun d G' H' => ∀ v, R X.K ca G' v d → Q v H') (fun p us d G' H' _ hp q v rv => q.2 v (rv.hide hp q.1))
    exact ⟨Hb, G2, h2⟩
theorem e_lendL {m : Res (List D)} (ho : ρ[i]? = some (some (.ol xs))) (h : PE X e (tL X.K ca W (ρ.set i (some (.d (.lst xs)))) m)) : PE X e (tL X.K ca W ρ (m >>= fun d => D.freeL d)) :=
  PE.of h fun σ H Q ⟨Hb, G, hq⟩ => by
    obtain ⟨G2, h2⟩ := lend ho (hq.cut (P := fun xs G' H' => D.lfL xs = true ∧ ∀ p vs, Hb p = none → G' p = none → H' p = some (.lst vs) → RL X.K ca G' vs xs → Q (.ref p) H') fun d G1 H1 e g h1 => by
      by_cases hl : D.lfL d = true
      · have ef : D.freeL d = .ok d := if_pos hl
        rw [ef] at h1
        exact ⟨hl, h1.done⟩
      · exact (h1.nb (if_neg hl)).elim) (P2 := fun xs G' H' => ∀ p vs, Hb p = none → G' p = none → H' p = some (.lst vs) → RL X.K ca G' vs xs → Q (.ref p) H') (fun p us d G' H' _ hp q r vs hr gr hh rl => by
        have ne : r ≠ p := fun z => by rw [z, hp] at gr; cases gr
        exact q.2 r vs hr (by rw [hide_ne ne]; exact gr) hh (rl.hide hp q.1))
    exact ⟨Hb, G2, h2⟩
/-- a test that reads one -/
theorem t_lend {m : Res Bool} (ho : ρ[i]? = some (some (.ol xs))) (h : PT X e (tB X.K ca W (ρ.set i (some (.d (.lst xs)))) m)) : PT X e (tB X.K ca W ρ m) :=
  PT.of h fun σ H Q ⟨Hb, G, hq⟩ => by
    obtain ⟨G2, h2⟩ := lend ho hq (P2 := fun b _ H' => Q b H') (fun p us d G' H' _ hp q => q)
    exact ⟨Hb, G2, h2⟩
/-- x[k] of a list of one's own, whatever its items are -/
theorem e_ownItem {n : Str} {p0 pos : Pos} {b : Expr} {mb : Res D} (hN : X.N[i]? = some n) (hv : Vis X.env.scope n) (hd : (n == ("__debug__" : Str)) = false) (hcd : (n == ("__classdict__" : Str)) = false) (ho : ρ[i]? = some (some (.ol xs)))
    (hb : PE X b (tD X.K ca W ρ mb)) (hs : PlainIx b := by intro _ _; rfl) : PE X (.Subscript (.Name n p0) b pos) (tD X.K ca W ρ (mb >>= fun y => D.item (.lst xs) y)) :=
  PE.of (pe_ix ix_seq (pe_var hN hv hd hcd) hb hs) fun σ H Q ⟨Hb, G, h⟩ => by
    obtain ⟨f, E, hf⟩ := h.env
    obtain ⟨p, us, hσ, hp, rl, fp⟩ := E.own ho
    refine ⟨.ref p, hσ, Hb, G, h.cut fun y G1 H1 _ g1 h1 w rw' => ?_⟩
    cases y with
    | int k =>
      cases rw'
      cases e : L2.atI xs k with
      | none => exact (h1.nb (by simp only [D.item, e, opt_none])).elim
      | some d =>
        obtain ⟨v, e1, r1⟩ := rl.atI e
        exact .inl ⟨_, _, _, _, rfl, rfl, SqL.of (g1.h _ _ hp), e1, h1.ok d (by simp only [D.item, e, opt_some]) _ _ (.refl h1.sub) v (r1.mono g1.g)⟩
    | _ => exact (h1.nb rfl).elim
/-- len(x) of one -/
theorem e_ownLen {n n1 : Str} {p0 p1 pos : Pos} (hN : X.N[i]? = some n) (hv : Vis X.env.scope n) (hd : (n == ("__debug__" : Str)) = false) (hcd : (n == ("__classdict__" : Str)) = false) (ho : ρ[i]? = some (some (.ol xs)))
    (hg : Gl X n1) (hm : X.mg n1 = none) (hb : bootBuiltins n1 = some (.builtin "len")) (hn : n1 ≠ "__name__" := by decide) (hdb : (n1 == ("__debug__" : Str)) = false := by decide)
    (he : starEach [.Name n p0] X.env = (false, eval (.Name n p0) X.env) :: starEach [] X.env := by rfl) (hpl : (backTo pos (starEach [] X.env)).any (·.1) = false := by rfl) :
    PE X (.Call (.Name n1 p1) [.Name n p0] [] pos) (tD X.K ca W ρ (.ok (.int xs.length))) :=
  PE.of (pe_callB call_len hg hm hb (pa_cons (pe_var hN hv hd hcd) pa_nil he) hn hdb he hpl) fun σ H Q ⟨Hb, G, h⟩ => by
    obtain ⟨f, E, hf⟩ := h.env
    obtain ⟨p, us, hσ, hp, rl, fp⟩ := E.own ho
    exact ⟨.ref p, hσ, .ref p, us.length, rfl, .inl ⟨us, SqL.of hp, rfl⟩, by rw [rl.length]; exact h.done _ (.int _)⟩
end
/-! ### the law's end -/
theorem law_sp {K : PySem.W.Frag} {ca : Nat → Addr} {F : List D → Res D} {H : Hp} {a : Addr} {ns : List Int} (hF : F [.lst (ns.map D.int)] = .ok (.bl true)) (hO : Only H) (hS : SqL K H a (ns.map V.int)) :
    spD K ca F [.ref a] H (fun v _ => v = .bl true) fun _ _ _ => False := by
  refine ⟨H, [.lst (ns.map D.int)], Same.refl _, .cons (.lst hS RL.ints) .nil, (by rw [hF]; intro z; cases z), fun d e G' H' g v rv => ?_, fun c e => (by rw [hF] at e; cases e)⟩
  rw [hF] at e
  cases e
  cases rv
  rfl
end Lk
namespace Lk
open PySem PySem.Spec PyProof.Rows L2
section
variable {K : PySem.W.Frag} {ca : Nat → Addr}
theorem l_lt : Lift2 K ca (rI0 fun i j => .bl (decide (i < j))) D.lt := l_cmpI
theorem l_le : Lift2 K ca (rI0 fun i j => .bl (decide (i ≤ j))) D.le := l_cmpI
theorem l_gt : Lift2 K ca (rI0 fun i j => .bl (decide (j < i))) D.gt := l_cmpI
theorem l_ge : Lift2 K ca (rI0 fun i j => .bl (decide (j ≤ i))) D.ge := l_cmpI
end
theorem b_len : bootBuiltins "len" = some (.builtin "len") := by decide +kernel
theorem b_min : bootBuiltins "min" = some (.builtin "min") := by decide +kernel
theorem b_max : bootBuiltins "max" = some (.builtin "max") := by decide +kernel
theorem b_sum : bootBuiltins "sum" = some (.builtin "sum") := by decide +kernel
theorem b_isinstance : bootBuiltins "isinstance" = some (.builtin "isinstance") := by decide +kernel
theorem b_int : bootBuiltins "int" = some (.type "int") := by decide +kernel
theorem b_bool : bootBuiltins "bool" = some (.type "bool") := by decide +kernel
theorem b_str : bootBuiltins "str" = some (.type "str") := by decide +kernel
theorem b_list : bootBuiltins "list" = some (.type "list") := by decide +kernel
theorem b_tuple : bootBuiltins "tuple" = some (.type "tuple") := by decide +kernel
/-- an own exception class: stands under ValueError, made with a text -/
structure ExcF (K : PySem.W.Frag) (mg : Str → Option Value) (n : Str) (C : Addr) : Prop where
  g : mg n = some (.ref C)
  x : PySem.W.excIn K C He.veBase "ValueError.__new__" = true
  kp : PySem.W.keepIn K (.ref C) = true
  sb : PySem.W.subIn K (.ref C) (.type "BaseException") = some true
  ty : PySem.W.typeIn K (.ref C) = some (.type "type")
theorem ExcF.of {K : PySem.W.Frag} {h : Heap} {mg : Str → Option Value} {n : Str} (X : K.In h) (G : h.Ns mainGlobals mg) (a : (He.Fa.glo n).ok K = true) (b : (He.Fa.exc n).ok K = true) : ExcF K mg n (He.ga K n) :=
  let q := He.exc_ok b
  ⟨He.glo_ok X G a, q.1, q.2.1, q.2.2.1, q.2.2.2⟩
theorem ExcF.made {X : Cx} {n m : Str} {C : Addr} {j : Nat} {p p2 pos : Pos} (E : ExcF X.K X.mg n C) (hg : Gl X n) (hdb : (n == ("__debug__" : Str)) = false := by decide) : PMk X (.Call (.Name n p) [.Constant (.str m) j p2] [] pos) (fun _ H Q => Q (.ref C) none H) :=
  pmk_own PySem.F.excBase_ValueError E.x E.g E.kp (raises_own E.sb E.ty) hg hdb
/-- what a promise's shape is -/
abbrev CalD (P : Program) (w : World) (K : PySem.W.Frag) (mg : Str → Option Value) (base : Heap) (ca : Nat → Addr) (n : Str) (k : Nat) (F : List D → Res D) : Prop := Cal P w K mg base n k (spD K ca F) []
abbrev CalL (P : Program) (w : World) (K : PySem.W.Frag) (mg : Str → Option Value) (base : Heap) (ca : Nat → Addr) (n : Str) (k : Nat) (F : List D → Res (List D)) : Prop := Cal P w K mg base n k (spL K ca F) []
end Lk
namespace Lk
open PySem PySem.Spec PyProof.Rows L2
theorem cx_no {P : Program} {w : World} {s : Shared} : ∀ (H : Hp) (e : Value) (s' : Shared), L2.CX P w [] H s (fun _ _ _ => False) e s' → False := by
  intro H e s' ⟨_, _, _, _, _, _, _, _, _, _, _, _, z⟩
  exact z
/-- a law whose promise is a function on data -/
theorem law_end {l : PySem.W.OpenLaw} {n k : Nat} {q : Program} {loose : List Str} {XP : (Str → Option Value) → Heap → Prop} {YP : World → Heap → Prop} {d : DefRec} {F : List D → Res D}
    (e1 : l.most = some n) (e2 : n ≤ sizeLine) (e3 : d.params.defaults = []) (e4 : Room k callerA) (hF : ∀ ns : List Int, ns.length ≤ n → F [.lst (ns.map D.int)] = .ok (.bl true))
    (U : ∀ (w : World) (mg : Str → Option Value) (fa : Addr) (h : Heap), YP w h → h.Ns mainGlobals mg → mg d.name = some (.ref fa) → ∃ (K : PySem.W.Frag) (ca : Nat → Addr), K.In h ∧
      ∃ fd : FuncData, (∀ (s : Shared) (v : Value), BindsTo s fd ⟨[v], []⟩ [("script", v)]) ∧ ∀ base : Heap, K.In base → base.Ns mainGlobals mg → FnOk l.prog w K mg base (L2.CX l.prog w) k fa fd ["script"] (spD K ca F)) :
    PySem.W.WalkO q loose XP YP l.row.toRowW d [] (fun f vs => PySem.call f vs) :=
  Att.attach_call e1 e3 fun w s₀ s₁ mg mb fa o pm cd doc a vs ns G Y ho hd hcd hmg hobj hints hlen hg => by
    obtain ⟨K, ca, KX, fd, hb, ok⟩ := U w mg fa _ Y G.T.g hmg
    refine law_call (CX := L2.CX l.prog w) KX G.T.g G.T.b ?_ ?_ hg hobj hints ?_ e4 ok hb ?_ cx_no
    · exact G.T.builtins
    · exact G.T.nolimit
    · exact Nat.le_trans hlen e2
    · exact fun H hO hS => law_sp (hF ns hlen) hO hS
end Lk
namespace Lk
open PySem PySem.Spec PyProof.Rows L2
def D.isB : D → D → Res D
  | .bl a, .bl b => .ok (.bl (decide (a = b)))
  | _, _ => .bug
def D.notB : D → D → Res D
  | .bl a, .bl b => .ok (.bl (!decide (a = b)))
  | _, _ => .bug
@[simp] theorem isB_bl (a b : Bool) : D.isB (.bl a) (.bl b) = .ok (.bl (decide (a = b))) := rfl
@[simp] theorem notB_bl (a b : Bool) : D.notB (.bl a) (.bl b) = .ok (.bl (!decide (a = b))) := rfl
def llB (sc : Scope) (x : Str) : Bool := match sc.names.lookup x with
  | some .local => true
  | _ => false
theorem lcl {sc : Scope} {N : List Str} (h : (N.all (llB sc)) = true) (i : Nat) {x : Str} (e : N[i]? = some x) : sc.names.lookup x = some .local := by
  have q := List.all_eq_true.mp h x (List.mem_of_getElem? e)
  unfold llB at q
  split at q
  · assumption
  · cases q
section
variable {K : PySem.W.Frag} {ca : Nat → Addr}
theorem bl2_inv {f : Bool → Bool → Bool} {g : D → D → Res D} (hg : ∀ x y, g x y ≠ .bug → ∃ a b, x = .bl a ∧ y = .bl b) (hf : ∀ a b, g (.bl a) (.bl b) = .ok (.bl (f a b))) :
    Lift2 K ca (fun x y H Q => ∃ a b, x = .bl a ∧ y = .bl b ∧ Q (.bl (f a b)) H) g := by
  intro Hb G H v w x y Q sb s rv rw' nb h
  obtain ⟨a, b, rfl, rfl⟩ := hg x y nb
  cases rv
  cases rw'
  exact ⟨a, b, rfl, rfl, fin2 s h (hf a b) (.bl _)⟩
theorem l_isB : Lift2 K ca (fun x y H Q => ∃ a b, x = .bl a ∧ y = .bl b ∧ Q (.bl (decide (a = b))) H) D.isB :=
  bl2_inv (f := fun a b => decide (a = b)) (fun x y h => by cases x <;> cases y <;> first | exact ⟨_, _, rfl, rfl⟩ | exact (h rfl).elim) fun _ _ => rfl
theorem l_notB : Lift2 K ca (fun x y H Q => ∃ a b, x = .bl a ∧ y = .bl b ∧ Q (.bl (!decide (a = b))) H) D.notB :=
  bl2_inv (f := fun a b => !decide (a = b)) (fun x y h => by cases x <;> cases y <;> first | exact ⟨_, _, rfl, rfl⟩ | exact (h rfl).elim) fun _ _ => rfl
end
section
variable {X : Cx} {ca : Nat → Addr} {W : WX} {ρ : Env} {a b c : Expr} {pos : Pos} {ma mb mc : Res D}
/-- a op b op c -/
theorem t_chain {op op' : CmpOp} {r r' : R2} {f g : D → D → Res D} (ho : OpR X (compareOp op) r) (l : Lift2 X.K ca r f) (ho' : OpR X (compareOp op') r') (l' : Lift2 X.K ca r' g)
    (ha : PE X a (tD X.K ca W ρ ma)) (hb : PE X b (tD X.K ca W ρ mb)) (hc : PE X c (tD X.K ca W ρ mc)) (hm : lastMarks [op, op'] [b, c] = false := by with_unfolding_all rfl) :
    PT X (.Compare a [op, op'] [b, c] pos) (tB X.K ca W ρ (ma >>= fun x => mb >>= fun y => f x y >>= D.toB >>= fun k => if k then mc >>= fun z => g y z >>= D.toB else .ok false)) :=
  PT.of (pt_chain ho ho' ha hb hc hm) fun σ H Q ⟨Hb, G, h⟩ => ⟨Hb, G, h.cut fun x G1 H1 _ g1 h1 v rv => ⟨Hb, G1, h1.cut fun y G2 H2 _ g2 h2 w rw' => by
    rw [bind_assoc'] at h2
    have h3 := h2.cut (P := fun z G' H' => ∀ v', R X.K ca G' v' z → ∃ k, v' = V.bl k ∧ (if k = true then tD X.K ca W ρ mc σ H' (fun w' H4 => r' w w' H4 fun x H' => ∃ k, x = V.bl k ∧ Q k H') else ∃ k, V.bl false = V.bl k ∧ Q k H')) fun z G3 H3 ez g3 h4 v' r3 => by
      cases z with
      | bl k =>
        cases r3
        refine ⟨k, rfl, ?_⟩
        cases k with
        | false => exact ⟨false, rfl, h4.done⟩
        | true =>
          refine ⟨Hb, G3, Cr.cut h4 fun z G4 H4 ez g4 h5 v4 r4 => ?_⟩
          have h6 := h5.cut (P := fun z G' H' => ∀ v', R X.K ca G' v' z → ∃ k, v' = V.bl k ∧ Q k H') fun z G5 H5 ez g5 h7 v' r' => by
            cases z with
            | bl k =>
              cases r'
              exact ⟨k, rfl, h7.done⟩
            | _ => exact (h7.nb rfl).elim
          exact l' h5.sb h5.sub ((rw'.mono g3.g).mono g4.g) r4 h6.nb fun z G' H' ez g' v' r' => h6.ok z ez G' H' g' v' r'
      | _ => exact (h4.nb rfl).elim
    exact l h2.sb h2.sub (rv.mono g2.g) rw' h3.nb fun z G' H' ez g' v' r' => h3.ok z ez G' H' g' v' r'⟩⟩
/-- .. as a value -/
theorem e_chain {op op' : CmpOp} {r r' : R2} {f g : D → D → Res D} (ho : OpR X (compareOp op) r) (l : Lift2 X.K ca r f) (ho' : OpR X (compareOp op') r') (l' : Lift2 X.K ca r' g)
    (ha : PE X a (tD X.K ca W ρ ma)) (hb : PE X b (tD X.K ca W ρ mb)) (hc : PE X c (tD X.K ca W ρ mc)) (hm : lastMarks [op, op'] [b, c] = false := by with_unfolding_all rfl) :
    PE X (.Compare a [op, op'] [b, c] pos) (tD X.K ca W ρ (ma >>= fun x => mb >>= fun y => f x y >>= D.toB >>= fun k => if k then mc >>= fun z => g y z else .ok (.bl false))) :=
  PE.of (pe_chain ho ho' ha hb hc hm) fun σ H Q ⟨Hb, G, h⟩ => ⟨Hb, G, h.cut fun x G1 H1 _ g1 h1 v rv => ⟨Hb, G1, h1.cut fun y G2 H2 _ g2 h2 w rw' => by
    rw [bind_assoc'] at h2
    have h3 := h2.cut (P := fun z G' H' => ∀ v', R X.K ca G' v' z → ∃ k, v' = V.bl k ∧ (if k = true then tD X.K ca W ρ mc σ H' (fun w' H4 => r' w w' H4 Q) else Q (V.bl false) H')) fun z G3 H3 ez g3 h4 v' r3 => by
      cases z with
      | bl k =>
        cases r3
        refine ⟨k, rfl, ?_⟩
        cases k with
        | false => exact h4.done _ (.bl _)
        | true =>
          exact ⟨Hb, G3, Cr.cut h4 fun z G4 H4 ez g4 h5 v4 r4 => l' h5.sb h5.sub ((rw'.mono g3.g).mono g4.g) r4 h5.nb fun z G' H' ez g' v' r' => h5.ok z ez G' H' g' v' r'⟩
      | _ => exact (h4.nb rfl).elim
    exact l h2.sb h2.sub (rv.mono g2.g) rw' h3.nb fun z G' H' ez g' v' r' => h3.ok z ez G' H' g' v' r'⟩⟩
end
section
variable {X : Cx} {ca : Nat → Addr} {W : WX} {ρ : Env} {n : Str} {p : Pos}
/-- a module's whole number -/
theorem e_gInt {i : Int} (hg : Gl X n) (h : ∃ t, X.mg n = some (.int i t)) (hd : (n == ("__debug__" : Str)) = false := by decide) : PE X (.Name n p) (tD X.K ca W ρ (.ok (.int i))) := by
  obtain ⟨t, h⟩ := h
  exact e_glob hg h (v := .int i) ⟨t, rfl⟩ (fun _ => .int _) hd
/-- a module's text -/
theorem e_gStr {z : Str} (hg : Gl X n) (h : ∃ t, X.mg n = some (.str z t)) (hd : (n == ("__debug__" : Str)) = false := by decide) : PE X (.Name n p) (tD X.K ca W ρ (.ok (.str z))) := by
  obtain ⟨t, h⟩ := h
  exact e_glob hg h (v := .str z) ⟨t, rfl⟩ (fun _ => .str _) hd
end
section
variable {X : Cx} {ca : Nat → Addr} {W : WX} {ρ : Env} {tg iter elt : Expr} {ifs : List Expr} {scope : Scope} {own : List (Str × Nat)} {pos : Pos} {mi : Res (List D)} {i j l : Nat} {n m o : Str} {p q u t : Pos} {kk : Nat}
def lcF3 (mt : D → D → D → Res Bool) (me : D → D → D → Res D) : D → Res (Option D) := un3 fun x y z => mt x y z >>= fun b => if b then me x y z >>= fun r => .ok (some r) else .ok none
theorem turnT3 {mt : D → D → D → Res Bool} {me : D → D → D → Res D} (hi : i < X.N.length) (hj : j < X.N.length) (hk : l < X.N.length) {vs : List Nat} (hv : i ∈ vs) (hv2 : j ∈ vs) (hv3 : l ∈ vs) :
    LcTurn X ca ρ vs (gTup X.K 3 (gCons (gName i) (gCons (gName j) (gCons (gName l) gNil)))) (fun σ H Q => ∃ x y z, tB X.K ca W0 (((ρ.set i (some (.d x))).set j (some (.d y))).set l (some (.d z))) (mt x y z) σ H Q)
      (fun σ H Q => ∃ x y z, tD X.K ca W0 (((ρ.set i (some (.d x))).set j (some (.d y))).set l (some (.d z))) (me x y z) σ H Q) (lcF3 mt me) := by
  intro σ x G H f v Ky Kn hl E r nb ky kn
  have nb0 : lcF3 mt me x ≠ .bug := fun z => nb (by rw [z]; rfl)
  obtain ⟨x1, x2, x3, rfl⟩ := un3_inv nb0
  have ef : lcF3 mt me (.tup [x1, x2, x3]) = (mt x1 x2 x3 >>= fun b => if b then me x1 x2 x3 >>= fun r => .ok (some r) else .ok none) := rfl
  rw [ef] at nb
  cases r with
  | tup q1 q2 =>
    cases q2 with
    | cons r1 q2 => cases q2 with
      | cons r2 q2 => cases q2 with
        | cons r3 q2 =>
          cases q2
          rename_i v1 v2 v3
          have hiσ : i < (wipe σ vs).length := by rw [wipe_length, hl]; exact hi
          have hjσ : j < ((wipe σ vs).set i (some v1)).length := by rw [List.length_set, wipe_length, hl]; exact hj
          have hkσ : l < (((wipe σ vs).set i (some v1)).set j (some v2)).length := by rw [List.length_set, List.length_set, wipe_length, hl]; exact hk
          have E1 := ((E.put hiσ r1).put hjσ r2).put hkσ r3
          refine ⟨_, _, rfl, Same.sqT E.sub q1, rfl, _, _, rfl, _, _, rfl, _, _, rfl, rfl, wipe_eq (by rw [List.length_set, List.length_set, List.length_set, wipe_length]) fun k hk' => ?_, x1, x2, x3, H, G, ?_⟩
          · rw [List.getElem?_set_ne (fun e => hk' (by rw [← e]; exact hv3)), List.getElem?_set_ne (fun e => hk' (by rw [← e]; exact hv2)), List.getElem?_set_ne (fun e => hk' (by rw [← e]; exact hv))]
          have C : Cr X.K ca W0 (((ρ.set i (some (.d x1))).set j (some (.d x2))).set l (some (.d x3))) ((((wipe σ vs).set i (some v1)).set j (some v2)).set l (some v3)) H G H (mt x1 x2 x3 >>= fun b => if b then me x1 x2 x3 >>= fun y => .ok (some y) else .ok none) (fun o G' H' => match o with | some y => ∀ w, R X.K ca G' w y → Ky w H' | none => Kn H') := by
            refine ⟨Same.refl _, ⟨_, E1, fun k a q => (E1.out k a q).2⟩, fun e => nb (by rw [e]; rfl), fun o e G' H' gb => ?_, fun c e => (nb (by rw [e]; rfl)).elim⟩
            cases o with
            | some y => exact fun w rw' => ky y G' H' (by rw [ef, e]; rfl) gb w rw'
            | none => exact kn G' H' (by rw [ef, e]; rfl) gb
          exact C.cut fun b G1 H1 eb g1 h1 => by
            cases b with
            | true => exact ⟨x1, x2, x3, H, G1, Cr.cut h1 fun z G2 H2 ez g2 h2 w rw' => h2.done w rw'⟩
            | false => exact h1.done
theorem e_lcT3 {mt : D → D → D → Res Bool} {me : D → D → D → Res D} (hc : X.calm = true) (hN : X.N.Nodup) (hi : PI X (.Tuple [.Name n p, .Name m q, .Name o u] kk t) iter (tIt X.K ca W ρ mi)) (hn : X.N[i]? = some n) (hm : X.N[j]? = some m) (ho : X.N[l]? = some o)
    (ok : BlkOk X.N X.env.scope scope own) {ρi : Env} (lei : Env.le ρi ρ) (hcl : clearE ρi (own.map (·.2)) = true) (hv : i ∈ own.map (·.2)) (hv2 : j ∈ own.map (·.2)) (hv3 : l ∈ own.map (·.2))
    (hg : ∀ (s : Shared) (H : Hp) (C : Addr) (cl : List (Str × Addr)) (fp : List Addr), PG (X.blk s H scope (compEnvC scope cl C X.env) fp) (.Tuple [.Name n p, .Name m q, .Name o u] kk t) (gTup X.K 3 (gCons (gName i) (gCons (gName j) (gCons (gName l) gNil)))))
    (ht : ∀ (x y z : D) (s : Shared) (H : Hp) (C : Addr) (cl : List (Str × Addr)) (fp : List Addr), PTs (X.blk s H scope (compEnvC scope cl C X.env) fp) ifs (tB X.K ca W0 (((ρi.set i (some (.d x))).set j (some (.d y))).set l (some (.d z))) (mt x y z)))
    (he : ∀ (x y z : D) (s : Shared) (H : Hp) (C : Addr) (cl : List (Str × Addr)) (fp : List Addr), PE (X.blk s H scope (compEnvC scope cl C X.env) fp) elt (tD X.K ca W0 (((ρi.set i (some (.d x))).set j (some (.d y))).set l (some (.d z))) (me x y z)))
    (hs : ∀ x, foldedSetIterable iter X.env x = pure x := by intro _; rfl) :
    PE X (.ListComp elt [⟨.Tuple [.Name n p, .Name m q, .Name o u] kk t, iter, ifs, 0⟩] scope pos) (tL X.K ca W ρ (mi >>= fun xs => lcSize xs >>= fun xs => compR (lcF3 mt me) xs)) := by
  refine ⟨fun pins s σ H Q I h => ?_⟩
  refine (pe_lc (tt := fun σ H Q => ∃ x y z, tB X.K ca W0 (((ρi.set i (some (.d x))).set j (some (.d y))).set l (some (.d z))) (mt x y z) σ H Q) (te := fun σ H Q => ∃ x y z, tD X.K ca W0 (((ρi.set i (some (.d x))).set j (some (.d y))).set l (some (.d z))) (me x y z) σ H Q) hc hN hi ok hg
    (fun s H C cl fp => ⟨fun pins s σ H Q I ⟨x, y, z, q⟩ => (ht x y z _ _ C cl fp).run pins s σ H Q I q⟩) (fun s H C cl fp => ⟨fun pins s σ H Q I ⟨x, y, z, q⟩ => (he x y z _ _ C cl fp).run pins s σ H Q I q⟩) hs).run pins s σ H Q I ?_
  exact lc_read lei (turnT3 (List.getElem?_eq_some_iff.mp hn).1 (List.getElem?_eq_some_iff.mp hm).1 (List.getElem?_eq_some_iff.mp ho).1 hv hv2 hv3) hcl I.len h
end
end Lk
namespace Lk
open PySem PySem.Spec PyProof.Rows L2
/-- a def that can be called with np values and keywords ks, which are its last parameters -/
structure CalK (P : Program) (w : World) (K : PySem.W.Frag) (mg : Str → Option Value) (base : Heap) (n : Str) (k : Nat) (sp : Sp) (np : Nat) (ks : List Str) : Prop where
  ex : ∃ (f : Addr) (fd : FuncData) (ps : List Str) (g : List Value → List Value → List Value), FnOk P w K mg base (L2.CX P w) k f fd ps sp ∧ mg n = some (.ref f) ∧ PySem.W.keepIn K (.ref f) = true ∧ KBn K fd ps np ks g (fun vs zs => vs ++ zs)
def kwR (np m : Nat) (F : List D → Res D) (ds es : List D) : Res D := if ds.length = np ∧ es.length = m then F (ds ++ es) else .bug
section
variable {X : Cx} {ca : Nat → Addr} {W : WX} {ρ : Env} {n : Str} {k np : Nat} {sp : Sp} {e : Expr} {es : List Expr} {kws : List Keyword} {p pos : Pos} {mas mks : Res (List D)} {ks : List Str}
theorem kw_one {m : Str} {kpos : Pos} {ma : Res D} (ha : PE X e (tD X.K ca W ρ ma)) : PK X [⟨some m, e, kpos⟩] (tArg X.K ca W ρ (ma >>= fun x => .ok [x])) :=
  ⟨fun pos pins s σ H Q I h => (pk_cons ha pk_nil).run pos pins s σ H Q I (let ⟨Hb, G, h⟩ := h; ⟨Hb, G, h.cut fun x G1 H1 _ g1 h1 v rv => h1.done [v] (.cons rv .nil)⟩)⟩
theorem e_callK {F : List D → Res D} (c : CalK X.prog X.w X.K X.mg X.base n k (spD X.K ca F) np ks) (hr : Room k X.A) (hg : Gl X n) (tk : Takes X W) (ha : PA X (e :: es) (tArg X.K ca W ρ mas)) (hkw : PK X kws (tArg X.K ca W ρ mks))
    (hall : (backToKw pos (keywordEach kws X.env)).all (·.1.isSome) = true := by rfl) (hks : (backToKw pos (keywordEach kws X.env)).filterMap (·.1) = ks := by rfl)
    (hdb : (n == ("__debug__" : Str)) = false := by decide) (he : starEach (e :: es) X.env = (false, eval e X.env) :: starEach es X.env := by rfl)
    (hpl : ((backTo pos (starEach (e :: es) X.env)).any (·.1) || (backToKw pos (keywordEach kws X.env)).any (·.1.isNone)) = false := by rfl) :
    PE X (.Call (.Name n p) (e :: es) kws pos) (tD X.K ca W ρ (mas >>= fun ds => mks >>= fun es => kwR np ks.length F ds es)) := by
  obtain ⟨f, fd, ps, g, FO, hm, hk, hb⟩ := c.ex
  refine ⟨fun pins s σ H Q I ⟨Hb, G, h⟩ => ?_⟩
  refine wpAny_Call_Name_kw (ld_glob I hg hm ?_ hdb)
  refine PySem.W.callWith_KW (h₀ := X.base) I.ok.mod.kin hk hall (thn (ha.run pos pins s σ H (fun vs H1 => tArg X.K ca W ρ mks σ H1 fun zs H2 => vs.length = np ∧ zs.length = ks.length ∧ spD X.K ca F (vs ++ zs) H2 Q (WE W σ)) I ⟨Hb, G, h.cut fun ds G1 H1 _ g1 h1 vs rvs => ⟨Hb, G1, h1.cut fun zs G2 H2 _ g2 h2 us rus => ?_⟩⟩) fun us s1 ⟨vs, H1, I1, r, q⟩ => ?_) hpl he
  · by_cases q : ds.length = np ∧ zs.length = ks.length
    · unfold kwR at h2
      rw [if_pos q] at h2
      exact ⟨by rw [rvs.length]; exact q.1, by rw [rus.length]; exact q.2, spD_of h2 ((rvs.mono g2.g).append rus)⟩
    · exact (h2.nb (by unfold kwR; rw [if_neg q])).elim
  refine thn (hkw.run pos pins s1 σ H1 _ I1 q) fun ws s2 ⟨zs, H2, I2, rz, l1, l2, q2⟩ => ⟨I2.kIn, ?_⟩
  rw [hks]
  have r2 := hb.rel r rz
  refine wpAny_call (codeAny_mono (FO.run X.A X.stack s2 H2 ⟨us, ks.zip ws⟩ (g us ws) (vs ++ zs) Q (WE W σ) hr I2.env0 (hb.to s2 us ws I2.kIn (r.length.symm.trans l1) (rz.length.symm.trans l2)) r2 q2) fun r s' hq => ?_)
  cases r with
  | error e => exact passAt tk σ pins H2 s2 e s' I2 hq
  | ok fl =>
    cases fl with
    | ret u => exact I2.after hq
    | next => exact False.elim hq
    | brk => exact False.elim hq
    | cont => exact False.elim hq
end
/-! ### the sum of a tuple -/
def rSumT (K : PySem.W.Frag) : List V → Hp → VK → Prop := fun vs H Q => ∃ (a : Addr) (ns : List Int), vs = [V.ref a] ∧ SqT K H a (ns.map V.int) ∧ Q (.int ns.sum) H
theorem cr_sumT {X : Cx} (hc : X.calm = true) : CallR X (.builtin "sum") (rSumT X.K) := by
  intro pins s σ H vs us Q I r h
  obtain ⟨a, ns, rfl, hs, q⟩ := h
  obtain ⟨its, rv, hl, _⟩ := I.tuple hs
  rw [Vals.ref1 r]
  obtain ⟨xs, hx⟩ := rv.ints.allInts.items
  have hn : numsOf its.toArray.toList = ns := by rw [show its.toArray.toList = its from rfl]; exact rv.ints.numsOf
  have hl2 : s.heap.IsTuple a its.toArray := hl
  rw [hx] at hl2 hn
  rw [nums_intItems] at hn
  refine PySem.W.ktm_sumG (I.ok.hd hc) hl2 fun h' tk t' hk => ?_
  rw [preSum_eq, List.take_of_length_le (by simp), hn]
  exact ⟨.int _, H, I.kept hk, ⟨_, rfl⟩, q⟩
def D.sumA : List D → Res D := one fun
  | .lst xs => (match D.ints xs with | some ns => .ok (.int ns.sum) | none => .bug)
  | .tup xs => (match D.ints xs with | some ns => .ok (.int ns.sum) | none => .bug)
  | _ => .bug
@[simp] theorem sumA_ints (ns : List Int) : D.sumA [.lst (ns.map D.int)] = .ok (.int ns.sum) := by simp [D.sumA, one]
@[simp] theorem sumA_tup (ns : List Int) : D.sumA [.tup (ns.map D.int)] = .ok (.int ns.sum) := by simp [D.sumA, one]
theorem cr_sumA {X : Cx} (hc : X.calm = true) : CallR X (.builtin "sum") (fun vs H Q => rSum X.K vs H Q ∨ rSumT X.K vs H Q) := (cr_sum hc).or (cr_sumT hc)
theorem l_sumA {K : PySem.W.Frag} {ca : Nat → Addr} : LiftA K ca (fun vs H Q => rSum K vs H Q ∨ rSumT K vs H Q) D.sumA := by
  intro Hb G H vs xs Q sb s r nb h
  obtain ⟨x, v, rfl, rfl, r1⟩ := RL.one nb r
  cases x <;> try exact (nb rfl).elim
  · rename_i ys
    cases e : D.ints ys with
    | none => exact (nb (by simp [D.sumA, one, e])).elim
    | some ns =>
      have e' := ints_inv e
      subst e'
      cases r1 with
      | lst q1 q2 =>
        have e2 := q2.ints_inv
        subst e2
        exact .inl ⟨_, ns, rfl, Same.sqL s q1, h _ _ _ (sumA_ints ns) (.refl s) _ (.int _)⟩
  · rename_i ys
    cases e : D.ints ys with
    | none => exact (nb (by simp [D.sumA, one, e])).elim
    | some ns =>
      have e' := ints_inv e
      subst e'
      cases r1 with
      | tup q1 q2 =>
        have e2 := q2.ints_inv
        subst e2
        exact .inr ⟨_, ns, rfl, Same.sqT s q1, h _ _ _ (sumA_tup ns) (.refl s) _ (.int _)⟩
/-! ### try -/
/-- p: which of the refusals the clause takes -/
def tryR {α : Type} (p : Nat → Option Bool) (m h : Res α) : Res α := match m with
  | .exc c => (match p c with
    | some true => h
    | some false => .exc c
    | none => .bug)
  | m => m
@[simp] theorem try_ok {α : Type} (p : Nat → Option Bool) (a : α) (h : Res α) : tryR p (.ok a) h = .ok a := rfl
theorem try_exc {α : Type} {p : Nat → Option Bool} {c : Nat} (h : Res α) (e : p c = some true) : tryR p (.exc c) h = h := by
  show (match p c with | some true => h | some false => Res.exc c | none => Res.bug) = h
  rw [e]
section
variable {X : Cx} {ca : Nat → Addr} {S B T : Type} {W : WX} {ρ ρx : Env} {emb : S → Env} {embB : B → Env} {out : T → O} {x : Str} {c : Value} {body suite : List Stmt} {b₀ : Stmt} {np pos pos' : Pos} {M Mh : Res (Out S B T)} {pp : Nat → Option Bool}
theorem s_try (hs : X.stack = X.env :: X.outer) (hf : X.env.frame = some X.env.locals) (hc : Names X x c) (tk : Takes X W) (hp : ∀ j b, pp j = some b → PySem.W.exmOne X.K (.ref (ca j)) c = some b) {ρb : Env} (le : Env.le ρx ρb)
    (hb : ∀ (W' : WX) (pn : List (Addr × Obj)) (xe : Value → Shared → Prop), Takes (X.tr pn xe) W' → PassesOwn (model X.prog X.w) X.A X.env xe → PSs (X.tr pn xe) body (tS X.K ca W' ρb emb embB out ρ M))
    (hh : ∀ (a : Addr) (pn : List (Addr × Obj)), PSs (X.suite a pn) (b₀ :: suite) (tS X.K ca W ρx emb embB out ρb Mh)) :
    PS X (.Try body [.ExceptHandler (some (.Name x np)) none (b₀ :: suite) pos'] [] [] pos) (tS X.K ca W ρx emb embB out ρ (tryR pp M Mh)) := by
  refine PS.of (ps_try_only (tb := fun W' => tS X.K ca W' ρb emb embB out ρ M) (ts := fun _ _ _ => tS X.K ca W ρx emb embB out ρb Mh) hs hf hc tk hb fun a oe cls d pn _ _ => hh a _) fun D σ H ⟨G, f, E, h⟩ => ⟨G, f, E, ?_⟩
  refine ⟨fun z => h.nb (by rw [z]; rfl), fun s z => h.nx s (by rw [z]; rfl), fun s z => h.bk s (by rw [z]; rfl), fun s z => h.ct s (by rw [z]; rfl), fun r z => h.rt r (by rw [z]; rfl), fun j z σ' G' H' f' v' E' => ?_⟩
  rw [z] at h
  cases q : pp j with
  | none => exact (h.nb (by show (match pp j with | some true => Mh | some false => Res.exc j | none => Res.bug) = Res.bug; rw [q])).elim
  | some b =>
    refine ⟨b, hp j b q, fun e _ _ => ?_, fun e => ?_⟩
    · subst e
      have h' : So X.K ca W ρx emb embB out D G H (All f) Mh := by
        have e2 : tryR pp (.exc j : Res (Out S B T)) Mh = Mh := try_exc Mh q
        rw [e2] at h
        exact h
      exact ⟨G', f', E', h'.on v'⟩
    · subst e
      exact h.ex j (by show (match pp j with | some true => Mh | some false => Res.exc j | none => Res.bug) = Res.exc j; rw [q]) σ' G' H' f' v' (E'.weak le)
end
end Lk
namespace Lk
open PySem PySem.Spec PyProof.Rows L2
def D.strs : List D → Option (List Str)
  | [] => some []
  | .str i :: r => (D.strs r).map (i :: ·)
  | _ :: _ => none
@[simp] theorem strs_map : ∀ (ns : List Str), D.strs (ns.map D.str) = some ns
  | [] => rfl
  | n :: ns => by simp [D.strs, strs_map ns]
theorem strs_inv : ∀ {xs : List D} {ns : List Str}, D.strs xs = some ns → xs = ns.map D.str
  | [], _, h => by cases h; rfl
  | .str i :: r, ns, h => by
    simp only [D.strs, Option.map_eq_some_iff] at h
    obtain ⟨ms, h1, rfl⟩ := h
    rw [strs_inv h1]; rfl
  | .non :: _, _, h => by simp [D.strs] at h
  | .bl _ :: _, _, h => by simp [D.strs] at h
  | .int _ :: _, _, h => by simp [D.strs] at h
  | .lst _ :: _, _, h => by simp [D.strs] at h
  | .tup _ :: _, _, h => by simp [D.strs] at h
  | .ins _ _ :: _, _, h => by simp [D.strs] at h
theorem RL.strs_inv {K : PySem.W.Frag} {ca : Nat → Addr} {G : Hp} : ∀ {ns : List Str} {vs : List V}, RL K ca G vs (ns.map D.str) → vs = ns.map V.str
  | [], _, .nil => rfl
  | n :: ns, _, .cons r h => by
    cases r
    rw [RL.strs_inv h]; rfl
def joinOk (a : Str) (ys : List Str) : Bool := decide ((ys.map (·.length)).sum + ys.length * a.length ≤ 16777216)
def D.join : D → D → Res D
  | .str a, .lst ds => (match D.strs ds with | some ys => if joinOk a ys = true then .ok (.str (Txt.join a ys)) else .bug | none => .bug)
  | .str a, .tup ds => (match D.strs ds with | some ys => if joinOk a ys = true then .ok (.str (Txt.join a ys)) else .bug | none => .bug)
  | _, _ => .bug
theorem join_ok {a : Str} {ys : List Str} (h : (ys.map (·.length)).sum + ys.length * a.length ≤ 16777216) : D.join (.str a) (.lst (ys.map D.str)) = .ok (.str (Txt.join a ys)) := by
  show (match D.strs (ys.map D.str) with | some ys => if joinOk a ys = true then Res.ok (D.str (Txt.join a ys)) else Res.bug | none => Res.bug) = _
  rw [strs_map]
  exact if_pos (decide_eq_true h)
def D.txt : D → Res D
  | .str a => .ok (.str a)
  | _ => .bug
@[simp] theorem txt_str (a : Str) : D.txt (.str a) = .ok (.str a) := rfl
def rJoin (K : PySem.W.Frag) : V → List V → Hp → VK → Prop := fun x xs H Q => ∃ a p, ∃ ys : List Str, x = .str a ∧ xs = [.ref p] ∧ (SqL K H p (ys.map V.str) ∨ SqT K H p (ys.map V.str)) ∧
      (ys.map (·.length)).sum + ys.length * a.length ≤ 16777216 ∧ Q (.str (Txt.join a ys)) H
section
variable {X : Cx} {ca : Nat → Addr} {W : WX} {ρ : Env} {o e : Expr} {apos pos : Pos} {mo me : Res D}
theorem e_join (ho : PE X o (tD X.K ca W ρ mo)) (he : PE X e (tD X.K ca W ρ me)) (hs : starEach [e] X.env = [(false, eval e X.env)] := by rfl) (hbase : attributeBase o "join" X.env (eval o X.env) = eval o X.env := by rfl) (hline : (apos.endLine == pos.line) = true := by rfl) :
    PE X (.Call (.Attribute o "join" apos) [e] [] pos) (tD X.K ca W ρ (mo >>= fun x => D.txt x >>= fun x => me >>= fun y => D.join x y)) :=
  PE.of (pe_join ho he hs hbase hline) fun σ H Q ⟨Hb, G, h⟩ => ⟨Hb, G, h.cut fun x G1 H1 _ g1 h1 v rv => by
    cases x with
    | str a =>
      cases rv
      have h1 : Cr X.K ca W ρ σ Hb G1 H1 (me >>= fun y => D.join (.str a) y) _ := h1
      refine ⟨⟨a, rfl⟩, Hb, G1, h1.cut fun y G2 H2 _ g2 h2 w rw' => ?_⟩
      cases y with
      | lst ds =>
        cases q : D.strs ds with
        | none => exact (h2.nb (by simp [D.join, q])).elim
        | some ys =>
          have e := Lk.strs_inv q
          subst e
          by_cases z : joinOk a ys = true
          · have ej : D.join (.str a) (.lst (ys.map D.str)) = .ok (.str (Txt.join a ys)) := join_ok (of_decide_eq_true z)
            rw [ej] at h2
            cases rw' with
            | lst q1 q2 =>
              have e2 := q2.strs_inv
              subst e2
              exact ⟨a, _, ys, rfl, rfl, .inl (Same.sqL h2.sub q1), of_decide_eq_true z, h2.done _ (.str _)⟩
          · exact (h2.nb (by simp [D.join, z])).elim
      | tup ds =>
        cases q : D.strs ds with
        | none => exact (h2.nb (by simp [D.join, q])).elim
        | some ys =>
          have e := Lk.strs_inv q
          subst e
          by_cases z : joinOk a ys = true
          · have ej : D.join (.str a) (.tup (ys.map D.str)) = .ok (.str (Txt.join a ys)) := by
              show (match D.strs (ys.map D.str) with | some ys => if joinOk a ys = true then Res.ok (D.str (Txt.join a ys)) else Res.bug | none => Res.bug) = _
              rw [strs_map]
              exact if_pos z
            rw [ej] at h2
            cases rw' with
            | tup q1 q2 =>
              have e2 := q2.strs_inv
              subst e2
              exact ⟨a, _, ys, rfl, rfl, .inr (Same.sqT h2.sub q1), of_decide_eq_true z, h2.done _ (.str _)⟩
          · exact (h2.nb (by simp [D.join, z])).elim
      | _ => exact (h2.nb rfl).elim
    | _ => exact (h1.nb rfl).elim⟩
end
def D.toStrA : List D → Res D := one fun
  | .int i => if i.natAbs.log2 < 1920 then .ok (.str (toString i)) else .bug
  | .str z => .ok (.str z)
  | _ => .bug
@[simp] theorem toStrA_str (z : Str) : D.toStrA [.str z] = .ok (.str z) := rfl
theorem toStrA_int {i : Int} (h : i.natAbs.log2 < 1920) : D.toStrA [.int i] = .ok (.str (toString i)) := if_pos h
theorem call_strA {X : Cx} : CallR X (.type "str") (fun xs H Q => (∃ i, xs = [.int i] ∧ i.natAbs.log2 < 1920 ∧ Q (.str (toString i)) H) ∨ ∃ a, xs = [.str a] ∧ Q (.str a) H) := call_str_int.or SkE.call_str_str
theorem l_toStrA {K : PySem.W.Frag} {ca : Nat → Addr} : LiftA K ca (fun xs H Q => (∃ i, xs = [.int i] ∧ i.natAbs.log2 < 1920 ∧ Q (.str (toString i)) H) ∨ ∃ a, xs = [.str a] ∧ Q (.str a) H) D.toStrA := by
  intro Hb G H vs xs Q sb s r nb h
  obtain ⟨x, v, rfl, rfl, r1⟩ := RL.one nb r
  cases x <;> try exact (nb rfl).elim
  · rename_i i
    cases r1
    by_cases hz : i.natAbs.log2 < 1920
    · exact .inl ⟨_, rfl, hz, h _ _ _ (toStrA_int hz) (.refl s) _ (.str _)⟩
    · exact (nb (if_neg hz)).elim
  · cases r1
    exact .inr ⟨_, rfl, h _ _ _ rfl (.refl s) _ (.str _)⟩
end Lk
namespace Lk
open PySem PySem.Spec PyProof.Rows L2
def D.rep (xs : List D) : D → Res (List D)
  | .int k => if (-(2 ^ 62) ≤ k ∧ k < 2 ^ 62) ∧ xs.length * k.toNat ≤ 100000 then .ok (List.replicate k.toNat xs).flatten else .bug
  | _ => .bug
theorem RL.rep {K : PySem.W.Frag} {ca : Nat → Addr} {G : Hp} {ds : List D} {vs : List V} (h : RL K ca G vs ds) : ∀ n : Nat, RL K ca G (List.replicate n vs).flatten (List.replicate n ds).flatten
  | 0 => .nil
  | n + 1 => by
    rw [List.replicate_succ, List.replicate_succ, List.flatten_cons, List.flatten_cons]
    exact h.append (RL.rep h n)
section
variable {X : Cx} {ca : Nat → Addr} {W : WX} {ρ : Env} {a : Expr} {pos p : Pos} {ma : Res (List D)} {i : Nat} {n : Str} {x : D}
theorem e_repV (ha : PE X a (tL X.K ca W ρ ma)) (hN : X.N[i]? = some n) (hv : Vis X.env.scope n) (h : ρ[i]? = some (some (.d x))) (hd : (n == ("__debug__" : Str)) = false) (hcd : (n == ("__classdict__" : Str)) = false) :
    PE X (.BinOp a .Mult (.Name n p) pos) (tL X.K ca W ρ (ma >>= fun xs => D.rep xs x)) :=
  PE.of (pe_op op_rep ha (pe_var hN hv hd hcd)) fun σ H Q ⟨Hb, G, h0⟩ => ⟨Hb, G, h0.cut fun xs G1 H1 _ g1 h1 q vs hq gq hh rl => by
    obtain ⟨f, E, hf⟩ := h0.env
    obtain ⟨v, e1, e2⟩ := E.slot i _ h
    cases e2 with
    | d e2 =>
      refine ⟨v, e1, ?_⟩
      cases x with
      | int k =>
        cases e2
        by_cases z : (-(2 ^ 62) ≤ k ∧ k < 2 ^ 62) ∧ xs.length * k.toNat ≤ 100000
        · have er : D.rep xs (.int k) = .ok (List.replicate k.toNat xs).flatten := if_pos z
          refine ⟨q, k, vs, rfl, rfl, hh, by omega, by omega, Nat.le_trans (by rw [rl.length]; exact z.2) (by decide), fun p2 hp2 => ?_⟩
          exact h1.ok _ er _ _ (Gb.own h1.sub hp2) p2 _ (h1.sb.free hp2) (h1.sub.free hp2) upd_same (rl.rep k.toNat)
        · exact (h1.nb (if_neg z)).elim
      | _ => exact (h1.nb rfl).elim⟩
end
def insR (xs : List D) (i : D) (d : D) : Res (List D) := match i with
  | .int j => if (0 ≤ j ∧ j < 2 ^ 62) ∧ xs.length < 100000 then .ok (xs.take j.toNat ++ [d] ++ xs.drop j.toNat) else .bug
  | _ => .bug
section
variable {X : Cx} {ca : Nat → Addr} {S B T : Type} {W : WX} {ρ ρx : Env} {emb : S → Env} {embB : B → Env} {out : T → O} {i : Nat} {n : Str} {e1 e2 : Expr} {rest : List Stmt} {m1 m2 : Res D}
theorem s_insert {apos cpos epos p0 : Pos} {xs : List D} {k : List D → Res (Out S B T)} (hN : X.N[i]? = some n) (hv : Vis X.env.scope n) (hd : (n == ("__debug__" : Str)) = false) (hcd : (n == ("__classdict__" : Str)) = false)
    (ho : ρ[i]? = some (some (.ol xs))) (he1 : PE X e1 (tD X.K ca W ρ m1)) (he2 : PE X e2 (tD X.K ca W ρ m2)) (le : Env.le ρx ρ) (h : ∀ ys, PSs X rest (tS X.K ca W ρx emb embB out (ρ.set i (some (.ol ys))) (k ys)))
    (hbase : attributeBase (.Name n p0) "insert" X.env (eval (.Name n p0) X.env) = eval (.Name n p0) X.env := by rfl)
    (hfew : ((backTo cpos (starEach [e1, e2] X.env)).all (fun x => !x.1) && (backToKw cpos (keywordEach [] X.env)).all (fun x => x.1.isSome)
      && decide ([e1, e2].length + ([] : List Keyword).length + (if ([] : List Keyword).isEmpty then 0 else 1) < 30)) = true := by rfl)
    (hline : (apos.endLine == cpos.line) = true := by rfl) (hs : starEach [e1, e2] X.env = (false, eval e1 X.env) :: starEach [e2] X.env := by rfl) (hs2 : starEach [e2] X.env = (false, eval e2 X.env) :: starEach [] X.env := by rfl) (hplain : (backTo cpos (starEach [e2] X.env)).any (·.1) = false := by rfl)
    (hsw : swapsWith (.Call (.Attribute (.Name n p0) "insert" apos) [e1, e2] [] cpos) none epos.line X.env = pure false := by rfl) :
    PSs X (.Expr (.Call (.Attribute (.Name n p0) "insert" apos) [e1, e2] [] cpos) epos :: rest) (tS X.K ca W ρx emb embB out ρ (m1 >>= fun j => m2 >>= fun d => insR xs j d >>= k)) :=
  PSs.of (pss_cons (ps_expr (pe_bm PySem.F.plainAttrs_list PySem.F.slot_list_insert PySem.F.type_list_insert mt_insert (pe_var hN hv hd hcd) (pa_cons he1 (pa_cons he2 pa_nil hs2) hs) hbase hfew hline hs hplain) hsw) (PSs.any h)) fun D σ H ⟨G, f, E, hq⟩ => by
    obtain ⟨p, vs, hσ, hp, rl, fp⟩ := E.own ho
    refine ⟨.ref p, hσ, .inl ⟨rfl, _, SqL.of hp⟩, H, G, hq.expr E le fun j G1 H1 ea g E1 h1 w rw' => ⟨H1, G1, h1.expr E1 le fun d G2 H2 ea2 g2 E2 h2 w2 rw2 => ?_⟩⟩
    have rl1 := (rl.mono g.g).mono g2.g
    have hp2 := g2.h _ _ (g.h _ _ hp)
    cases j with
    | int j =>
      by_cases hz : (0 ≤ j ∧ j < 2 ^ 62) ∧ xs.length < 100000
      · have ei : insR xs (.int j) d = .ok (xs.take j.toNat ++ [d] ++ xs.drop j.toNat) := if_pos hz
        rw [ei] at h2
        have rw3 := rw'
        cases rw3
        refine ⟨p, vs, j, w2, rfl, rfl, hp2, Nat.lt_of_lt_of_le (by rw [rl1.length]; exact hz.2) (by decide), hz.1.1, by omega, xs.take j.toNat ++ [d] ++ xs.drop j.toNat, ?_⟩
        obtain ⟨E3, v3⟩ := E2.change (vs := vs.take j.toNat ++ [w2] ++ vs.drop j.toNat) (xs := xs.take j.toNat ++ [d] ++ xs.drop j.toNat) fp rfl (((rl1.take _).append (.cons rw2 .nil)).append (rl1.drop _)) hσ rfl
        exact ⟨G2, f, E3, h2.on v3⟩
      · exact (h2.nb (by
          have : insR xs (.int j) d = .bug := if_neg hz
          rw [this]; rfl)).elim
    | _ => exact (h2.nb rfl).elim
end
end Lk
namespace Lk
open PySem PySem.Spec PyProof.Rows L2
theorem RL.strs {K : PySem.W.Frag} {ca : Nat → Addr} {G : Hp} : ∀ {ns : List Str}, RL K ca G (ns.map V.str) (ns.map D.str)
  | [] => .nil
  | n :: ns => .cons (.str n) RL.strs
def D.split : D → D → Res (List D)
  | .str a, .str b => if (b.length == 0) = false ∧ a.length + 2 ≤ 100000 then .ok ((Txt.split a b).map D.str) else .bug
  | _, _ => .bug
theorem split_ok {a b : Str} (h : (b.length == 0) = false) (h2 : a.length + 2 ≤ 100000) : D.split (.str a) (.str b) = .ok ((Txt.split a b).map D.str) := if_pos ⟨h, h2⟩
def D.txtS : D → Res D
  | .str a => if a.length ≤ 30000 then .ok (.str a) else .bug
  | _ => .bug
theorem txtS_ok {a : Str} (h : a.length ≤ 30000) : D.txtS (.str a) = .ok (.str a) := if_pos h
theorem txtS_no {a : Str} (h : ¬ a.length ≤ 30000) : D.txtS (.str a) = .bug := if_neg h
def D.cat3 : D → D → D → Res D
  | .str a, .str b, .str c => .ok (.str (Str.empty ++ a ++ b ++ c))
  | _, _, _ => .bug
def D.fmt : D → Res D
  | .str a => if a.length ≤ 30000 then .ok (.str a) else .bug
  | .int i => if i.natAbs.log2 < 1920 then .ok (.str (toString i)) else .bug
  | _ => .bug
section
variable {X : Cx} {ca : Nat → Addr} {W : WX} {ρ : Env} {o e e1 e2 e3 : Expr} {apos pos : Pos} {mo me m1 m2 m3 : Res D}
theorem e_split (ho : PE X o (tD X.K ca W ρ mo)) (he : PE X e (tD X.K ca W ρ me)) (hs : starEach [e] X.env = [(false, eval e X.env)] := by rfl) (hbase : attributeBase o "split" X.env (eval o X.env) = eval o X.env := by rfl) (hline : (apos.endLine == pos.line) = true := by rfl) :
    PE X (.Call (.Attribute o "split" apos) [e] [] pos) (tL X.K ca W ρ (mo >>= fun x => D.txt x >>= fun x => me >>= fun y => D.split x y)) :=
  PE.of (pe_split ho he hs hbase hline) fun σ H Q ⟨Hb, G, h⟩ => ⟨Hb, G, h.cut fun x G1 H1 _ g1 h1 v rv => by
    cases x with
    | str a =>
      cases rv
      refine ⟨⟨a, rfl⟩, Hb, G1, Cr.cut (k := fun y => D.split (.str a) y) h1 fun y G2 H2 _ g2 h2 w rw' => ?_⟩
      cases y with
      | str b =>
        cases rw'
        by_cases z : (b.length == 0) = false ∧ a.length + 2 ≤ 100000
        · rw [split_ok z.1 z.2] at h2
          refine ⟨a, b, rfl, rfl, z.1, Nat.le_trans z.2 (by decide), fun p hp => ?_⟩
          exact h2.ok _ rfl _ _ (Gb.own h2.sub hp) p _ (h2.sb.free hp) (h2.sub.free hp) upd_same RL.strs
        · exact (h2.nb (if_neg z)).elim
      | _ => exact (h2.nb rfl).elim
    | _ => exact (h1.nb rfl).elim⟩
theorem e_fmt (he : PE X e (tD X.K ca W ρ me)) : PE X (.FormattedValue e (-1) none pos) (tD X.K ca W ρ (me >>= fun x => D.fmt x)) :=
  PE.of (pe_fmt he) fun σ H Q ⟨Hb, G, h⟩ => ⟨Hb, G, h.cut fun x G1 H1 _ g1 h1 v rv => by
    cases x with
    | str a =>
      cases rv
      by_cases z : a.length ≤ 30000
      · have ef : D.fmt (.str a) = .ok (.str a) := if_pos z
        rw [ef] at h1
        exact .inl ⟨a, rfl, Nat.le_trans z (by decide), h1.done _ (.str _)⟩
      · exact (h1.nb (if_neg z)).elim
    | int i =>
      cases rv
      by_cases z : i.natAbs.log2 < 1920
      · have ef : D.fmt (.int i) = .ok (.str (toString i)) := if_pos z
        rw [ef] at h1
        exact .inr ⟨i, rfl, z, h1.done _ (.str _)⟩
      · exact (h1.nb (if_neg z)).elim
    | _ => exact (h1.nb rfl).elim⟩
theorem e_join3 (h1 : PE X e1 (tD X.K ca W ρ m1)) (h2 : PE X e2 (tD X.K ca W ρ m2)) (h3 : PE X e3 (tD X.K ca W ρ m3)) :
    PE X (.JoinedStr [e1, e2, e3] pos) (tD X.K ca W ρ (m1 >>= fun x => D.txtS x >>= fun x => m2 >>= fun y => D.txtS y >>= fun y => m3 >>= fun z => D.txtS z >>= fun z => D.cat3 x y z)) :=
  PE.of (pe_joined (.cons h1 (.cons h2 (.cons h3 .nil)))) fun σ H Q ⟨Hb, G, h⟩ => ⟨Hb, G, h.cut fun x G1 H1 _ g1 k1 v rv => by
    cases x with
    | str a =>
      cases rv
      by_cases za : a.length ≤ 30000
      · rw [txtS_ok za, bind_ok] at k1
        have la : (Str.empty ++ a).length = a.length := by
          show (#[] ++ a.cps).size = a.cps.size
          simp
        refine ⟨a, rfl, Nat.le_trans (by rw [la]; exact za) (by decide), Hb, G1, k1.cut fun y G2 H2 _ g2 k2 w rw' => ?_⟩
        cases y with
        | str b =>
          cases rw'
          by_cases zb : b.length ≤ 30000
          · rw [txtS_ok zb, bind_ok] at k2
            have lb : (Str.empty ++ a ++ b).length = a.length + b.length := by
              show ((#[] ++ a.cps) ++ b.cps).size = a.cps.size + b.cps.size
              simp
            refine ⟨b, rfl, Nat.le_trans (by rw [lb]; omega : (Str.empty ++ a ++ b).length ≤ 60000) (by decide), Hb, G2, k2.cut fun z G3 H3 _ g3 k3 u ru => ?_⟩
            cases z with
            | str c =>
              cases ru
              by_cases zc : c.length ≤ 30000
              · rw [txtS_ok zc, bind_ok] at k3
                have lc : (Str.empty ++ a ++ b ++ c).length = a.length + b.length + c.length := by
                  show (((#[] ++ a.cps) ++ b.cps) ++ c.cps).size = a.cps.size + b.cps.size + c.cps.size
                  rw [Array.size_append, Array.size_append, Array.size_append]
                  simp
                have e3 : D.cat3 (.str a) (.str b) (.str c) = .ok (.str (Str.empty ++ a ++ b ++ c)) := rfl
                rw [e3] at k3
                exact ⟨c, rfl, Nat.le_trans (by rw [lc]; omega : (Str.empty ++ a ++ b ++ c).length ≤ 90000) (by decide), k3.done _ (.str _)⟩
              · exact (k3.nb (by show (D.txtS (.str c) >>= _) = _; rw [txtS_no zc]; rfl)).elim
            | _ => exact (k3.nb rfl).elim
          · exact (k2.nb (by show (D.txtS (.str b) >>= _) = _; rw [txtS_no zb]; rfl)).elim
        | _ => exact (k2.nb rfl).elim
      · exact (k1.nb (by show (D.txtS (.str a) >>= _) = _; rw [txtS_no za]; rfl)).elim
    | _ => exact (k1.nb rfl).elim⟩
end
end Lk
namespace Lk
open PySem PySem.Spec PyProof.Rows L2
theorem compR_map {α : Type} {F : D → Res (Option D)} (c : α → D) (g : α → D) : ∀ {xs : List α}, (∀ x ∈ xs, F (c x) = .ok (some (g x))) → compR F (xs.map c) = .ok (xs.map g)
  | [], _ => rfl
  | x :: xs, h => by
    simp only [List.map_cons, compR, h x List.mem_cons_self, compR_map c g (xs := xs) fun y hy => h y (List.mem_cons_of_mem _ hy)]
    rfl
theorem compR_filter {α : Type} {F : D → Res (Option D)} (c : α → D) (p : α → Bool) (g : α → D) : ∀ {xs : List α}, (∀ x ∈ xs, F (c x) = .ok (if p x then some (g x) else none)) → compR F (xs.map c) = .ok ((xs.filter p).map g)
  | [], _ => rfl
  | x :: xs, h => by
    simp only [List.map_cons, compR, h x List.mem_cons_self, compR_filter c p g (xs := xs) fun y hy => h y (List.mem_cons_of_mem _ hy)]
    cases q : p x <;> simp [List.filter_cons, q]
section
variable {S B T : Type}
/-- a loop whose turns go on: an invariant by the turn -/
theorem loopR_inv {step : S → D → Res (Out S S T)} : ∀ (xs : List D) (P : Nat → S → Prop) {s : S}, P 0 s →
    (∀ k (hk : k < xs.length) s, P k s → ∃ s', step s xs[k] = .ok (.nx s') ∧ P (k + 1) s') → ∃ s', (loopR step xs s : Res (Out S B T)) = .ok (.nx s') ∧ P xs.length s'
  | [], P, s, h0, _ => ⟨s, rfl, h0⟩
  | x :: xs, P, s, h0, h => by
    obtain ⟨s1, e1, h1⟩ := h 0 (Nat.zero_lt_succ _) s h0
    obtain ⟨s2, e2, h2⟩ := loopR_inv xs (fun k => P (k + 1)) h1 fun k hk s q => h (k + 1) (Nat.succ_lt_succ hk) s q
    refine ⟨s2, ?_, h2⟩
    have e1' : step s x = .ok (.nx s1) := e1
    simp only [loopR, e1']
    exact e2
/-- a loop as a fold -/
theorem loopR_fold {α σ : Type} {step : S → D → Res (Out S S T)} (c : α → D) (st : σ → S) (f : σ → α → σ) : ∀ (xs : List α) {s : σ}, (∀ s, ∀ x ∈ xs, step (st s) (c x) = .ok (.nx (st (f s x)))) →
    (loopR step (xs.map c) (st s) : Res (Out S B T)) = .ok (.nx (st (xs.foldl f s)))
  | [], _, _ => rfl
  | x :: xs, s, h => by
    have e := h s x List.mem_cons_self
    simp only [List.map_cons, loopR, e]
    exact loopR_fold c st f xs fun s y hy => h s y (List.mem_cons_of_mem _ hy)
/-- a loop whose state stays -/
theorem loopR_stay {α : Type} {step : S → D → Res (Out S S T)} (c : α → D) {s : S} : ∀ (xs : List α), (∀ x ∈ xs, step s (c x) = .ok (.nx s)) → (loopR step (xs.map c) s : Res (Out S B T)) = .ok (.nx s)
  | [], _ => rfl
  | x :: xs, h => by
    have e := h x List.mem_cons_self
    simp only [List.map_cons, loopR, e]
    exact loopR_stay c xs fun y hy => h y (List.mem_cons_of_mem _ hy)
/-- a loop over a range, the state told by the turn -/
theorem loopR_range {step : S → D → Res (Out S S T)} {s0 : S} (f : Nat → S) : ∀ (n : Nat), s0 = f 0 → (∀ k, k < n → step (f k) (.int (k : Int)) = .ok (.nx (f (k + 1)))) →
    (loopR step ((List.range n).map fun k : Nat => D.int (k : Int)) s0 : Res (Out S B T)) = .ok (.nx (f n)) := by
  intro n e0 h
  subst e0
  obtain ⟨s, e, hs⟩ := loopR_inv (B := B) (T := T) (step := step) ((List.range n).map fun k : Nat => D.int (k : Int)) (fun k s => s = f k) (s := f 0) rfl (by
    intro k hk s hs
    subst hs
    have hk' : k < n := by simpa using hk
    refine ⟨_, ?_, rfl⟩
    rw [List.getElem_map, List.getElem_range]
    exact h k hk')
  rw [e, hs]
  simp
/-- a loop by the place, the state told by the turn -/
theorem loopR_at {step : S → D → Res (Out S S T)} {s0 : S} (xs : List D) (f : Nat → S) (e0 : s0 = f 0) (h : ∀ k (hk : k < xs.length), step (f k) xs[k] = .ok (.nx (f (k + 1)))) :
    (loopR step xs s0 : Res (Out S B T)) = .ok (.nx (f xs.length)) := by
  subst e0
  obtain ⟨s, e, hs⟩ := loopR_inv (B := B) (T := T) (step := step) xs (fun k s => s = f k) (s := f 0) rfl (by
    intro k hk s hs
    subst hs
    exact ⟨_, h k hk, rfl⟩)
  rw [e, hs]
@[simp] theorem loopR_cons {step : S → D → Res (Out S S T)} {x : D} {xs : List D} {s : S} : (loopR step (x :: xs) s : Res (Out S B T)) = (step s x >>= fun
    | .nx s' => loopR step xs s'
    | .ct s' => loopR step xs s'
    | .bk s' => .ok (.nx s')
    | .rt r => .ok (.rt r)) := rfl
end
section
variable {S B T γ : Type}
/-- a loop under an invariant, and what comes behind -/
theorem loop_keep {α : Type} {step : S → D → Res (Out S S T)} {c : α → D} {xs : List α} {s : S} {k : Out S B T → Res γ} {r : Res γ} (P : S → Prop) (h0 : P s)
    (hs : ∀ s, P s → ∀ x ∈ xs, ∃ s', step s (c x) = .ok (.nx s') ∧ P s') (hk : ∀ s, P s → k (.nx s) = r) : (loopR step (xs.map c) s >>= k) = r := by
  obtain ⟨s', e, hs'⟩ := loopR_inv (B := B) (T := T) (step := step) (xs.map c) (fun _ s => P s) h0 (by
    intro j hj s hp
    rw [List.getElem_map]
    exact hs s hp _ (List.getElem_mem _))
  rw [e, bind_ok]
  exact hk s' hs'
theorem loop_keep_at {α : Type} {step : S → D → Res (Out S S T)} {c : α → D} {xs : List α} {s : S} {k : Out S B T → Res γ} {r : Res γ} (P : Nat → S → Prop) (h0 : P 0 s)
    (hs : ∀ j (hj : j < xs.length) s, P j s → ∃ s', step s (c xs[j]) = .ok (.nx s') ∧ P (j + 1) s') (hk : ∀ s, P xs.length s → k (.nx s) = r) : (loopR step (xs.map c) s >>= k) = r := by
  obtain ⟨s', e, hs'⟩ := loopR_inv (B := B) (T := T) (step := step) (xs.map c) P h0 (by
    intro j hj s hp
    rw [List.getElem_map]
    exact hs j (by simpa using hj) s hp)
  rw [e, bind_ok]
  exact hk s' (by simpa using hs')
theorem loop_keep_range {step : S → D → Res (Out S S T)} {n : Nat} {s : S} {k : Out S B T → Res γ} {r : Res γ} (P : Nat → S → Prop) (h0 : P 0 s)
    (hs : ∀ j, j < n → ∀ s, P j s → ∃ s', step s (.int (j : Int)) = .ok (.nx s') ∧ P (j + 1) s') (hk : ∀ s, P n s → k (.nx s) = r) : (loopR step ((List.range n).map fun k : Nat => D.int (k : Int)) s >>= k) = r := by
  refine loop_keep_at (c := fun k : Nat => D.int (k : Int)) P h0 (fun j hj s hp => ?_) (fun s hp => hk s (by simpa using hp))
  rw [List.getElem_range]
  exact hs j (by simpa using hj) s hp
theorem fin_bind {S' : Type} {m : Res γ} {f : γ → Res (Out S' B D)} : fin (m >>= f) = (m >>= fun a => fin (f a)) := by cases m <;> rfl
theorem finL_bind {S' : Type} {m : Res γ} {f : γ → Res (Out S' B (List D))} : finL (m >>= f) = (m >>= fun a => finL (f a)) := by cases m <;> rfl
end
theorem rangeD_get {lo : Int} {n k : Nat} (h : k < (rangeD lo n).length) : (rangeD lo n)[k] = .int (lo + (k : Int)) := by simp [rangeD]
theorem rangeD_map {n : Nat} : rangeD 0 n = (List.range n).map fun k : Nat => D.int (k : Int) := by simp [rangeD]
theorem range1_nat {n : Nat} (h : n ≤ 100000) : D.range1 [.int (n : Int)] = .ok ((List.range n).map fun k : Nat => D.int (k : Int)) := by
  have l : -(4611686018427387904 : Int) ≤ (n : Int) := by omega
  have r : (n : Int) < 4611686018427387904 := by omega
  have e : inB (n : Int) = true := decide_eq_true ⟨l, r⟩
  rw [range1_ok e, Int.toNat_natCast, rangeD_map]
theorem atI_nat {α : Type} {xs : List α} {k : Nat} (h : k < xs.length) : L2.atI xs (k : Int) = some xs[k] := by
  unfold L2.atI L2.ixN
  have : ¬ (k : Int) < 0 := by omega
  simp [h]
theorem item_lst {xs : List D} {k : Nat} (h : k < xs.length) : D.item (.lst xs) (.int (k : Int)) = .ok xs[k] := by simp [D.item, atI_nat h]
theorem item_tup {xs : List D} {k : Nat} (h : k < xs.length) : D.item (.tup xs) (.int (k : Int)) = .ok xs[k] := by simp [D.item, atI_nat h]
theorem cutD_to {α : Type} {xs : List α} {k : Nat} : cutD xs none (some (k : Int)) = xs.take k := by
  unfold cutD
  rw [HT.sIx_nat, HT.sIx_none, List.drop_zero, Nat.sub_zero]
  rw [List.take_eq_take_iff]
  omega
theorem cutD_from {α : Type} {xs : List α} {k : Nat} : cutD xs (some (k : Int)) none = xs.drop k := by
  unfold cutD
  rw [HT.sIx_nat, HT.sIx_none]
  by_cases h : k ≤ xs.length
  · rw [Nat.min_eq_left h]
    exact List.take_of_length_le (by rw [List.length_drop]; exact Nat.le_refl _)
  · rw [Nat.min_eq_right (by omega), List.drop_of_length_le (Nat.le_refl _), List.drop_of_length_le (by omega), List.take_nil]
theorem slice_to {xs : List D} {k : Nat} : D.slice (.lst xs) none (some (k : Int)) = .ok (.lst (xs.take k)) := by
  show Res.ok (D.lst (cutD xs none (some (k : Int)))) = _
  rw [cutD_to]
theorem slice_from {xs : List D} {k : Nat} : D.slice (.lst xs) (some (k : Int)) none = .ok (.lst (xs.drop k)) := by
  show Res.ok (D.lst (cutD xs (some (k : Int)) none)) = _
  rw [cutD_from]
/-! equality of data -/
mutual
theorem eqv_refl : ∀ {n : Nat} {x : D}, D.fit n x = true → D.eqv x x = true
  | _, .non, _ => by simp [D.eqv]
  | _, .bl _, _ => by simp [D.eqv]
  | _, .int _, _ => by simp [D.eqv]
  | _, .str _, _ => by simp [D.eqv]
  | 0, .lst _, h => by simp [D.fit] at h
  | n + 1, .lst xs, h => by
    simp only [D.fit] at h
    simp only [D.eqv]
    exact eqvL_refl h
  | 0, .tup _, h => by simp [D.fit] at h
  | n + 1, .tup xs, h => by
    simp only [D.fit] at h
    simp only [D.eqv]
    exact eqvL_refl h
  | 0, .ins _ _, h => by simp [D.fit] at h
  | n + 1, .ins _ _, h => by simp [D.fit] at h
theorem eqvL_refl : ∀ {n : Nat} {xs : List D}, xs.all (D.fit n) = true → D.eqvL xs xs = true
  | _, [], _ => by simp [D.eqvL]
  | n, x :: xs, h => by
    simp only [List.all_cons, Bool.and_eq_true] at h
    simp only [D.eqvL, eqv_refl h.1, eqvL_refl h.2, Bool.and_self]
end
theorem eqB_same {x : D} (h : D.fit 20 x = true) : D.eqB x x = .ok true := by simp [D.eqB, h, eqv_refl h]
theorem eq_same {x : D} (h : D.fit 20 x = true) : D.eq x x = .ok (.bl true) := by simp [D.eq, eqB_same h]
theorem ne_same {x : D} (h : D.fit 20 x = true) : D.ne x x = .ok (.bl false) := by simp [D.ne, eqB_same h]
theorem fit_lst {α : Type} {n : Nat} {c : α → D} {xs : List α} (h : ∀ x ∈ xs, D.fit n (c x) = true) : D.fit (n + 1) (.lst (xs.map c)) = true := by
  simp only [D.fit, List.all_map, List.all_eq_true]
  exact h
theorem fit_tup {α : Type} {n : Nat} {c : α → D} {xs : List α} (h : ∀ x ∈ xs, D.fit n (c x) = true) : D.fit (n + 1) (.tup (xs.map c)) = true := by
  simp only [D.fit, List.all_map, List.all_eq_true]
  exact h
@[simp] theorem fit_int {n : Nat} {i : Int} : D.fit n (.int i) = true := by cases n <;> rfl
@[simp] theorem fit_bl {n : Nat} {i : Bool} : D.fit n (.bl i) = true := by cases n <;> rfl
@[simp] theorem fit_non {n : Nat} : D.fit n .non = true := by cases n <;> rfl
theorem fit_ints {n : Nat} {xs : List Int} : D.fit (n + 1) (.lst (xs.map D.int)) = true := fit_lst fun _ _ => fit_int
@[simp] theorem isInt_int (i : Int) : D.isT "int" (.int i) = .ok (.bl true) := rfl
@[simp] theorem isBool_int (i : Int) : D.isT "bool" (.int i) = .ok (.bl false) := rfl
@[simp] theorem isInt_bl (i : Bool) : D.isT "int" (.bl i) = .ok (.bl true) := rfl
@[simp] theorem isBool_bl (i : Bool) : D.isT "bool" (.bl i) = .ok (.bl true) := rfl
@[simp] theorem truth_bl (b : Bool) : D.truth (.bl b) = .ok b := rfl
@[simp] theorem truth_int (b : Int) : D.truth (.int b) = .ok (b != 0) := rfl
@[simp] theorem truth_non : D.truth .non = .ok false := rfl
@[simp] theorem sized_0 : Res.sized [] = .ok [] := if_pos (by simp)
@[simp] theorem sized_1 {a : D} : Res.sized [a] = .ok [a] := if_pos (by simp)
@[simp] theorem sized_2 {a b : D} : Res.sized [a, b] = .ok [a, b] := if_pos (by simp)
@[simp] theorem sized_3 {a b c : D} : Res.sized [a, b, c] = .ok [a, b, c] := if_pos (by simp)
@[simp] theorem sized_4 {a b c d : D} : Res.sized [a, b, c, d] = .ok [a, b, c, d] := if_pos (by simp)
@[simp] theorem sized_5 {a b c d e : D} : Res.sized [a, b, c, d, e] = .ok [a, b, c, d, e] := if_pos (by simp)
@[simp] theorem sized_6 {a b c d e f : D} : Res.sized [a, b, c, d, e, f] = .ok [a, b, c, d, e, f] := if_pos (by simp)
@[simp] theorem sized_7 {a b c d e f g : D} : Res.sized [a, b, c, d, e, f, g] = .ok [a, b, c, d, e, f, g] := if_pos (by simp)
@[simp] theorem sized_8 {a b c d e f g h : D} : Res.sized [a, b, c, d, e, f, g, h] = .ok [a, b, c, d, e, f, g, h] := if_pos (by simp)
theorem sized_ok {xs : List D} (h : xs.length ≤ 100000) : Res.sized xs = .ok xs := if_pos h
end Lk
namespace Lk
open PySem PySem.Spec PyProof.Rows L2
theorem log2_lt200 {b : Int} (h : 0 < b) (h2 : b < 2 ^ 200) : b.natAbs.log2 < 9000 := by
  have : b.natAbs < 2 ^ 200 := by omega
  exact Nat.lt_trans (log2_small this (by decide)) (by decide)
theorem fdiv_small {a b : Int} (h : 0 < b) (h2 : b < 2 ^ 200) : D.fdiv (.int a) (.int b) = .ok (.int (a / b)) := fdiv_int h (log2_lt200 h h2)
theorem pow_small {a b : Int} (h : 0 ≤ b) (h2 : b ≤ 1000) (h3 : a.natAbs < 1000000000000) : D.pow (.int a) (.int b) = .ok (.int (a ^ b.toNat)) := if_pos ⟨h, h2, by omega⟩
theorem log2_lt_of_lt {a : Int} {k : Nat} (h : a.natAbs < 2 ^ k) (hk : 0 < k) : a.natAbs.log2 < k := log2_small h hk
theorem mul_small {a b : Int} (h : a.natAbs < 2 ^ 250) (h2 : b.natAbs < 2 ^ 250) : D.mul (.int a) (.int b) = .ok (.int (a * b)) :=
  mul_int' (Nat.lt_trans (Nat.add_lt_add (log2_small h (by decide)) (log2_small h2 (by decide))) (by decide))
theorem item_ints {xs : List Int} {i : Nat} (h : i < xs.length) : D.item (.lst (xs.map D.int)) (.int (i : Int)) = .ok (.int (xs.getD i 0)) := by
  rw [item_lst (by rw [List.length_map]; exact h), List.getElem_map, List.getD_eq_getElem?_getD, List.getElem?_eq_getElem h]
  rfl
theorem itemT_ints {xs : List Int} {i : Nat} (h : i < xs.length) : D.item (.tup (xs.map D.int)) (.int (i : Int)) = .ok (.int (xs.getD i 0)) := by
  rw [item_tup (by rw [List.length_map]; exact h), List.getElem_map, List.getD_eq_getElem?_getD, List.getElem?_eq_getElem h]
  rfl
theorem setR_ints {xs : List Int} {i : Nat} {v : Int} (h : i < xs.length) : setR (xs.map D.int) (.int (i : Int)) (.int v) = .ok ((xs.set i v).map D.int) := by
  rw [setR_nat (by rw [List.length_map]; exact h), List.map_set]
theorem pushR_ints {xs : List Int} {v : Int} (h : xs.length < 100000) : pushR (xs.map D.int) (.int v) = .ok ((xs ++ [v]).map D.int) := by
  rw [pushR_ok (by rw [List.length_map]; exact h), List.map_append]
  rfl
section
variable {S B T : Type}
theorem while_no {test : S → Res Bool} {body : S → Res (Out S S T)} {n : Nat} {s : S} (hn : 0 < n) (h : test s = .ok false) : (whileR test body n s : Res (Out S B T)) = .ok (.nx s) := by
  cases n with
  | zero => omega
  | succ n =>
    simp only [whileR, h, bind_ok]
    rfl
theorem while_yes {test : S → Res Bool} {body : S → Res (Out S S T)} {n : Nat} {s s' : S} (hn : 0 < n) (h : test s = .ok true) (hb : body s = .ok (.nx s')) : (whileR test body n s : Res (Out S B T)) = whileR test body (n - 1) s' := by
  cases n with
  | zero => omega
  | succ n =>
    simp only [whileR, h, bind_ok, hb, if_true]
    rfl
end
theorem while_inv {S B T γ : Type} {test : S → Res Bool} {body : S → Res (Out S S T)} {k : Out S B T → Res γ} {r : Res γ} (P : S → Prop) (μ : S → Nat) :
    ∀ (n : Nat) {s : S}, P s → μ s < n → (∀ s, P s → (test s = .ok false ∧ k (.nx s) = r) ∨ (test s = .ok true ∧ ∃ s', body s = .ok (.nx s') ∧ P s' ∧ μ s' < μ s)) → (whileR test body n s >>= k) = r
  | 0, s, _, hn, _ => by omega
  | n + 1, s, h0, hn, hs => by
    rcases hs s h0 with ⟨e, hk⟩ | ⟨e, s', eb, h1, hm⟩
    · rw [while_no (Nat.succ_pos _) e, bind_ok]
      exact hk
    · rw [while_yes (Nat.succ_pos _) e eb]
      exact while_inv P μ n h1 (by omega) hs
theorem ite_nx {S B T : Type} {b : Bool} {x y : S} : (if b = true then (.ok (.nx x) : Res (Out S B T)) else .ok (.nx y)) = .ok (.nx (if b = true then x else y)) := by cases b <;> rfl
theorem ite_int {b : Bool} {x y : Int} : (if b = true then D.int x else D.int y) = D.int (if b = true then x else y) := by cases b <;> rfl
theorem ite_and {b p : Bool} : (if b = true then (.ok p : Res Bool) else .ok false) = .ok (b && p) := by cases b <;> rfl
theorem ite_or {b p : Bool} : (if b = true then (.ok true : Res Bool) else .ok p) = .ok (b || p) := by cases b <;> rfl
theorem ite_andD {b p : Bool} : (if b = true then (.ok (.bl p) : Res D) else .ok (.bl false)) = .ok (.bl (b && p)) := by cases b <;> rfl
theorem ite_orD {b p : Bool} : (if b = true then (.ok (.bl true) : Res D) else .ok (.bl p)) = .ok (.bl (b || p)) := by cases b <;> rfl
section
variable {S B T γ : Type}
theorem loopP_at {α : Type} {step : S → D → Res (Out S S T)} {c : α → D} {xs : List α} {s : S} {k : Out S B T → Res γ} (R : Res γ → Prop) (P : Nat → S → Prop) (h0 : P 0 s)
    (hs : ∀ j (hj : j < xs.length) s, P j s → ∃ s', step s (c xs[j]) = .ok (.nx s') ∧ P (j + 1) s') (hk : ∀ s, P xs.length s → R (k (.nx s))) : R (loopR step (xs.map c) s >>= k) := by
  obtain ⟨s', e, hs'⟩ := loopR_inv (B := B) (T := T) (step := step) (xs.map c) P h0 (by
    intro j hj s hp
    rw [List.getElem_map]
    exact hs j (by simpa using hj) s hp)
  rw [e, bind_ok]
  exact hk s' (by simpa using hs')
theorem loopP_range {step : S → D → Res (Out S S T)} {n : Nat} {s : S} {k : Out S B T → Res γ} (R : Res γ → Prop) (P : Nat → S → Prop) (h0 : P 0 s)
    (hs : ∀ j, j < n → ∀ s, P j s → ∃ s', step s (.int (j : Int)) = .ok (.nx s') ∧ P (j + 1) s') (hk : ∀ s, P n s → R (k (.nx s))) : R (loopR step ((List.range n).map fun k : Nat => D.int (k : Int)) s >>= k) := by
  refine loopP_at (c := fun k : Nat => D.int (k : Int)) R P h0 (fun j hj s hp => ?_) (fun s hp => hk s (by simpa using hp))
  rw [List.getElem_range]
  exact hs j (by simpa using hj) s hp
theorem loopP {α : Type} {step : S → D → Res (Out S S T)} {c : α → D} {xs : List α} {s : S} {k : Out S B T → Res γ} (R : Res γ → Prop) (P : S → Prop) (h0 : P s)
    (hs : ∀ s, P s → ∀ x ∈ xs, ∃ s', step s (c x) = .ok (.nx s') ∧ P s') (hk : ∀ s, P s → R (k (.nx s))) : R (loopR step (xs.map c) s >>= k) :=
  loopP_at R (fun _ => P) h0 (fun j hj s hp => hs s hp _ (List.getElem_mem _)) hk
end
theorem sliceI_from {xs : List Int} {k : Nat} : D.slice (.lst (xs.map D.int)) (some (k : Int)) none = .ok (.lst ((xs.drop k).map D.int)) := by rw [slice_from, List.map_drop]
theorem sliceI_to {xs : List Int} {k : Nat} : D.slice (.lst (xs.map D.int)) none (some (k : Int)) = .ok (.lst ((xs.take k).map D.int)) := by rw [slice_to, List.map_take]
theorem lenI {xs : List Int} : D.len [.lst (xs.map D.int)] = .ok (.int (xs.length : Int)) := by rw [len_lst, List.length_map]
theorem lenIT {xs : List Int} : D.len [.tup (xs.map D.int)] = .ok (.int (xs.length : Int)) := by rw [len_tup, List.length_map]
theorem emod_nat {c : Int} {m : Nat} (h : 0 < m) : ∃ s : Nat, c % (m : Int) = (s : Int) ∧ s < m := by
  have h1 : 0 ≤ c % (m : Int) := Int.emod_nonneg _ (by omega)
  have h2 : c % (m : Int) < (m : Int) := Int.emod_lt_of_pos _ (by omega)
  exact ⟨(c % (m : Int)).toNat, by omega, by omega⟩
theorem fitI {n : Nat} {xs : List Int} : D.fit (n + 1) (.lst (xs.map D.int)) = true := fit_ints
theorem fitIT {n : Nat} {xs : List Int} : D.fit (n + 1) (.tup (xs.map D.int)) = true := fit_tup fun _ _ => fit_int
@[simp] theorem isTup_tup (xs : List D) : D.isT "tuple" (.tup xs) = .ok (.bl true) := rfl
@[simp] theorem isList_lst (xs : List D) : D.isT "list" (.lst xs) = .ok (.bl true) := rfl
end Lk
namespace Lw
open PySem PySem.Spec PyProof.Rows L2 Lk
def top (i : Nat) : Stmt := PySem.Challenge.pw_lockhouse_k81_two_parts.main.body.getD i (.Pass ⟨0, 0, 0, 0⟩)
structure Tx (K : PySem.W.Frag) (mg : Str → Option Value) (ca : Nat → Addr) : Prop where
  n_range : mg "range" = none
  n_isinstance : mg "isinstance" = none
  n_len : mg "len" = none
  n_list : mg "list" = none
  n_str : mg "str" = none
  n_tuple : mg "tuple" = none
def m_parted (v_text : D) : Res D :=
  fin (S := Unit) (B := Empty) ((Res.ok (D.str (Str.ofString ""))) >>= fun v_ahead_1 => (((Res.ok []) >>= fun xs3 => Res.sized xs3) >>= fun v_asked_2 => ((((((Res.ok v_text) >>= fun x4 => D.txt x4 >>= fun x4 => (Res.ok (D.str (Str.ofString "\n"))) >>= fun x5 => D.split x4 x5) >>= fun x6 => Res.ok (D.lst x6)) >>= fun x7 => D.seq x7) >>= fun xs9 => loopR (S := List D × D) (B := Empty) (T := D) (fun (s8 : List D × D) v_row_10 => (((Res.ok v_row_10) >>= fun x11 => (Res.ok (D.str (Str.ofString ""))) >>= fun x12 => D.ne x11 x12 >>= D.toB) >>= fun b13 => if b13 then ((((Res.ok (D.lst s8.1)) >>= D.truth) >>= fun b21 => if b21 then Res.ok true else (((((Res.ok v_row_10) >>= fun x14 => D.txt x14 >>= fun x14 => (Res.ok (D.str (Str.ofString " "))) >>= fun x15 => D.split x14 x15) >>= fun x16 => Res.ok (D.lst x16)) >>= fun x17 => (Res.ok (D.int 0)) >>= fun x18 => D.item x17 x18) >>= fun x19 => (Res.ok (D.str (Str.ofString "keeper"))) >>= fun x20 => D.eq x19 x20 >>= D.toB)) >>= fun b22 => if b22 then ((Res.ok v_row_10) >>= fun x23 => pushR s8.1 x23 >>= fun v_asked_24 => (Res.ok (Out.nx (v_asked_24, s8.2)))) else ((((Res.ok s8.2) >>= fun x26 => (Res.ok v_row_10) >>= fun x27 => D.add x26 x27) >>= fun x28 => (Res.ok (D.str (Str.ofString "\n"))) >>= fun x29 => D.add x28 x29) >>= fun v_ahead_25 => (Res.ok (Out.nx (s8.1, v_ahead_25))))) else (Res.ok (Out.nx (s8.1, s8.2))))) xs9 (v_asked_2, v_ahead_1)) >>= Out.then_ (fun s30 => ((((Res.ok s30.2) >>= fun x33 => ((Res.ok (D.lst s30.1)) >>= fun x31 => (Res.ok []) >>= fun xs32 => Res.ok (x31 :: xs32)) >>= fun xs34 => Res.ok (x33 :: xs34)) >>= fun xs35 => Res.sized xs35 >>= fun xs36 => Res.ok (D.tup xs36)) >>= fun x37 => Res.ok (Out.rt x37))))))
def m__law_name (v_seed : D) : Res D :=
  fin (S := Unit) (B := Empty) ((Res.ok (D.str (Str.ofString ""))) >>= fun v_name_1 => ((((((Res.ok (D.int 1)) >>= fun x4 => ((Res.ok v_seed) >>= fun x2 => (Res.ok (D.int 12)) >>= fun x3 => D.mod x2 x3) >>= fun x5 => D.add x4 x5) >>= fun x6 => (Res.ok []) >>= fun xs7 => Res.ok (x6 :: xs7)) >>= fun xs8 => D.range1 xs8) >>= fun xs10 => loopR (S := D × D) (B := Empty) (T := D) (fun (s9 : D × D) v_k_11 => (((((Res.ok s9.1) >>= fun x13 => (Res.ok (D.int 1)) >>= fun x14 => D.add x13 x14) >>= fun x15 => (Res.ok (D.int 48271)) >>= fun x16 => D.mul x15 x16) >>= fun x17 => (Res.ok (D.int 2147483647)) >>= fun x18 => D.mod x17 x18) >>= fun v_seed_12 => (((Res.ok s9.2) >>= fun x24 => ((Res.ok (D.str (Str.ofString "abcdefghijklmnopqrstuvwxyz"))) >>= fun x22 => ((Res.ok v_seed_12) >>= fun x20 => (Res.ok (D.int 26)) >>= fun x21 => D.mod x20 x21) >>= fun x23 => D.item x22 x23) >>= fun x25 => D.add x24 x25) >>= fun v_name_19 => (Res.ok (Out.nx (v_seed_12, v_name_19)))))) xs10 (v_seed, v_name_1)) >>= Out.then_ (fun s26 => ((Res.ok s26.2) >>= fun x27 => Res.ok (Out.rt x27)))))
def m__law_row (v_cell : D) : Res D :=
  fin (S := Unit) (B := Empty) (((((Res.ok (D.str (Str.ofString ""))) >>= fun x20 => ((Res.ok (D.str (Str.ofString "keeper"))) >>= fun x18 => ((Res.ok (D.str (Str.ofString "keeper 5"))) >>= fun x16 => ((Res.ok (D.str (Str.ofString "keeper  5"))) >>= fun x14 => ((Res.ok (D.str (Str.ofString "keeper "))) >>= fun x12 => ((Res.ok (D.str (Str.ofString "keepers"))) >>= fun x10 => ((Res.ok (D.str (Str.ofString " keeper"))) >>= fun x8 => ((Res.ok (D.str (Str.ofString "Keeper"))) >>= fun x6 => ((Res.ok (D.str (Str.ofString "keeper\t5"))) >>= fun x4 => ((Res.ok (D.str (Str.ofString "keepe"))) >>= fun x2 => (Res.ok []) >>= fun xs3 => Res.ok (x2 :: xs3)) >>= fun xs5 => Res.ok (x4 :: xs5)) >>= fun xs7 => Res.ok (x6 :: xs7)) >>= fun xs9 => Res.ok (x8 :: xs9)) >>= fun xs11 => Res.ok (x10 :: xs11)) >>= fun xs13 => Res.ok (x12 :: xs13)) >>= fun xs15 => Res.ok (x14 :: xs15)) >>= fun xs17 => Res.ok (x16 :: xs17)) >>= fun xs19 => Res.ok (x18 :: xs19)) >>= fun xs21 => Res.ok (x20 :: xs21)) >>= fun xs22 => Res.sized xs22) >>= fun x23 => Res.ok (D.lst x23)) >>= fun v_menu_1 => (((Res.ok v_menu_1) >>= fun x41 => ((((Res.ok (D.str (Str.ofString "a keeper"))) >>= fun x37 => ((Res.ok (D.str (Str.ofString ""))) >>= fun x35 => ((Res.ok (D.str (Str.ofString "work"))) >>= fun x33 => ((Res.ok (D.str (Str.ofString "keeper,"))) >>= fun x31 => ((Res.ok (D.str (Str.ofString "keeperkeeper 1"))) >>= fun x29 => ((Res.ok (D.str (Str.ofString " "))) >>= fun x27 => ((Res.ok (D.str (Str.ofString "  "))) >>= fun x25 => (Res.ok []) >>= fun xs26 => Res.ok (x25 :: xs26)) >>= fun xs28 => Res.ok (x27 :: xs28)) >>= fun xs30 => Res.ok (x29 :: xs30)) >>= fun xs32 => Res.ok (x31 :: xs32)) >>= fun xs34 => Res.ok (x33 :: xs34)) >>= fun xs36 => Res.ok (x35 :: xs36)) >>= fun xs38 => Res.ok (x37 :: xs38)) >>= fun xs39 => Res.sized xs39) >>= fun x40 => Res.ok (D.lst x40)) >>= fun x42 => D.add x41 x42) >>= fun v_menu_24 => ((((Res.ok v_cell) >>= fun x43 => (Res.ok (D.int 40)) >>= fun x44 => D.mod x43 x44) >>= fun x45 => (Res.ok (D.int 17)) >>= fun x46 => D.lt x45 x46 >>= D.toB) >>= fun b47 => if b47 then Res.up (((Res.ok v_menu_24) >>= fun x50 => ((Res.ok v_cell) >>= fun x48 => (Res.ok (D.int 40)) >>= fun x49 => D.mod x48 x49) >>= fun x51 => D.item x50 x51) >>= fun x52 => Res.ok (Out.rt x52)) else ((((Res.ok v_cell) >>= fun x54 => (Res.ok (D.int 40)) >>= fun x55 => D.fdiv x54 x55) >>= fun x56 => (Res.ok (D.int 1000000000000)) >>= fun x57 => D.mod x56 x57) >>= fun v_number_53 => ((((((Res.ok v_cell) >>= fun x59 => (Res.ok (D.int 40)) >>= fun x60 => D.fdiv x59 x60) >>= fun x61 => (Res.ok (D.int 2147483629)) >>= fun x62 => D.mod x61 x62) >>= fun x63 => (Res.ok []) >>= fun xs64 => Res.ok (x63 :: xs64)) >>= fun xs65 => F1 m__law_name xs65) >>= fun v_name_58 => ((((Res.ok v_name_58) >>= fun x66 => D.fmt x66) >>= fun x68 => D.txtS x68 >>= fun x68 => (Res.ok (D.str (Str.ofString " "))) >>= fun x69 => D.txtS x69 >>= fun x69 => ((Res.ok v_number_53) >>= fun x67 => D.fmt x67) >>= fun x70 => D.txtS x70 >>= fun x70 => D.cat3 x68 x69 x70) >>= fun x71 => Res.ok (Out.rt x71)))))))
def m_law (v_script : D) : Res D :=
  fin (S := Unit) (B := Empty) ((((Res.ok v_script) >>= fun x2 => D.seq x2) >>= fun xs7 => lcSize xs7 >>= fun xs8 => compR (lcF (fun v_cell_3 => (Res.ok true)) (fun v_cell_3 => (((Res.ok v_cell_3) >>= fun x4 => (Res.ok []) >>= fun xs5 => Res.ok (x4 :: xs5)) >>= fun xs6 => F1 m__law_row xs6))) xs8) >>= fun v_rows_1 => ((Res.ok (D.str (Str.ofString ""))) >>= fun v_ahead_9 => (((Res.ok []) >>= fun xs11 => Res.sized xs11) >>= fun v_behind_10 => ((((Res.ok (D.lst v_rows_1)) >>= fun x12 => D.seq x12) >>= fun xs14 => loopR (S := List D × D) (B := Empty) (T := D) (fun (s13 : List D × D) v_row_15 => (((Res.ok v_row_15) >>= fun x16 => (Res.ok (D.str (Str.ofString ""))) >>= fun x17 => D.eq x16 x17 >>= D.toB) >>= fun b18 => if b18 then Res.up (Res.ok (Out.ct (s13.1, s13.2))) else ((((Res.ok (D.int (s13.1.length : Nat))) >>= fun x19 => (Res.ok (D.int 0)) >>= fun x20 => D.gt x19 x20 >>= D.toB) >>= fun b29 => if b29 then Res.ok true else (((Res.ok v_row_15) >>= fun x21 => (Res.ok (D.str (Str.ofString "keeper"))) >>= fun x22 => D.eq x21 x22 >>= D.toB) >>= fun b28 => if b28 then Res.ok true else (((Res.ok v_row_15) >>= fun x23 => (Res.ok none) >>= fun l24 => ((Res.ok (D.int 7)) >>= D.toI) >>= fun h25 => D.slice x23 l24 h25) >>= fun x26 => (Res.ok (D.str (Str.ofString "keeper "))) >>= fun x27 => D.eq x26 x27 >>= D.toB))) >>= fun b30 => if b30 then ((Res.ok v_row_15) >>= fun x31 => pushR s13.1 x31 >>= fun v_behind_32 => (Res.ok (Out.nx (v_behind_32, s13.2)))) else ((((Res.ok s13.2) >>= fun x34 => (Res.ok v_row_15) >>= fun x35 => D.add x34 x35) >>= fun x36 => (Res.ok (D.str (Str.ofString "\n"))) >>= fun x37 => D.add x36 x37) >>= fun v_ahead_33 => (Res.ok (Out.nx (s13.1, v_ahead_33))))))) xs14 (v_behind_10, v_ahead_9)) >>= Out.then_ (fun s38 => (((Res.ok (D.str (Str.ofString "\n"))) >>= fun x40 => D.txt x40 >>= fun x40 => (Res.ok (D.lst v_rows_1)) >>= fun x41 => D.join x40 x41) >>= fun v_text_39 => ((((((((Res.ok v_script) >>= fun x42 => (Res.ok []) >>= fun xs43 => Res.ok (x42 :: xs43)) >>= fun xs44 => D.len xs44) >>= fun x45 => (Res.ok (D.int 0)) >>= fun x46 => D.gt x45 x46 >>= D.toB) >>= fun b55 => if b55 then (((((Res.ok v_script) >>= fun x47 => (Res.ok (D.int 0)) >>= fun x48 => D.item x47 x48) >>= fun x49 => (Res.ok (D.int 600)) >>= fun x50 => D.fdiv x49 x50) >>= fun x51 => (Res.ok (D.int 2)) >>= fun x52 => D.mod x51 x52) >>= fun x53 => (Res.ok (D.int 1)) >>= fun x54 => D.eq x53 x54 >>= D.toB) else Res.ok false) >>= fun b56 => if b56 then (((Res.ok v_text_39) >>= fun x58 => (Res.ok (D.str (Str.ofString "\n"))) >>= fun x59 => D.add x58 x59) >>= fun v_text_57 => (Res.ok (Out.nx v_text_57))) else (Res.ok (Out.nx v_text_39))) : Res (Out (D) (Empty) (D))) >>= Out.then_ (fun s60 => ((((Res.ok s60) >>= fun x62 => (Res.ok []) >>= fun xs63 => Res.ok (x62 :: xs63)) >>= fun xs64 => F1 m_parted xs64) >>= fun v_found_61 => ((((((Res.ok v_found_61) >>= fun x65 => D.isT "tuple" x65) >>= D.truth) >>= fun b66 => Res.ok (!b66)) >>= fun b72 => if b72 then Res.ok true else ((((Res.ok v_found_61) >>= fun x67 => (Res.ok []) >>= fun xs68 => Res.ok (x67 :: xs68)) >>= fun xs69 => D.len xs69) >>= fun x70 => (Res.ok (D.int 2)) >>= fun x71 => D.ne x70 x71 >>= D.toB)) >>= fun b73 => if b73 then Res.up ((Res.ok (D.bl false)) >>= fun x74 => Res.ok (Out.rt x74)) else (((((((Res.ok v_found_61) >>= fun x75 => (Res.ok (D.int 0)) >>= fun x76 => D.item x75 x76) >>= fun x77 => D.isT "str" x77) >>= D.truth) >>= fun b78 => Res.ok (!b78)) >>= fun b88 => if b88 then Res.ok true else ((((((Res.ok v_found_61) >>= fun x79 => (Res.ok (D.int 1)) >>= fun x80 => D.item x79 x80) >>= fun x81 => D.isT "list" x81) >>= D.truth) >>= fun b82 => Res.ok (!b82)) >>= fun b87 => if b87 then Res.ok true else (((Res.ok v_found_61) >>= fun x83 => (Res.ok (D.int 0)) >>= fun x84 => D.item x83 x84) >>= fun x85 => (Res.ok s38.2) >>= fun x86 => D.ne x85 x86 >>= D.toB))) >>= fun b89 => if b89 then Res.up ((Res.ok (D.bl false)) >>= fun x90 => Res.ok (Out.rt x90)) else (((((Res.ok v_found_61) >>= fun x91 => (Res.ok (D.int 1)) >>= fun x92 => D.item x91 x92) >>= fun x93 => D.seq x93) >>= fun xs95 => loopR (S := Unit) (B := Empty) (T := D) (fun (s94 : Unit) v_row_96 => (((((Res.ok v_row_96) >>= fun x97 => D.isT "str" x97) >>= D.truth) >>= fun b98 => Res.ok (!b98)) >>= fun b99 => if b99 then Res.up ((Res.ok (D.bl false)) >>= fun x100 => Res.ok (Out.rt x100)) else (Res.ok (Out.nx ())))) xs95 ()) >>= Out.then_ (fun s101 => ((((Res.ok v_found_61) >>= fun x102 => (Res.ok (D.int 1)) >>= fun x103 => D.item x102 x103) >>= fun x104 => (Res.ok (D.lst s38.1)) >>= fun x105 => D.eq x104 x105) >>= fun x106 => Res.ok (Out.rt x106)))))))))))))))
section
variable {P : Program} {w : World} {K : PySem.W.Frag} {mg : Str → Option Value} {base : Heap} {ca : Nat → Addr} {f : Addr} {fd : FuncData}
abbrev st_parted : Stmt := top 1
theorem sc_parted : FnScope ["text", "ahead", "asked", "row"] ["text"] (defScope st_parted) := ⟨rfl, rfl, rfl, by decide +kernel, rfl, by decide +kernel, by decide +kernel⟩
theorem vl_parted : ((["text", "ahead", "asked", "row"] : List Str).all (locB (defScope st_parted))) = true := by decide +kernel
theorem dl_parted : ((["text", "ahead", "asked", "row"] : List Str).all dbgB) = true := by decide +kernel
theorem gls_parted : (([] : List Str).all (glB (defScope st_parted))) = true := by decide +kernel
theorem ok_parted (D0 : FunD K "parted" "parted" (defArgs st_parted) (defBody st_parted) (defScope st_parted) [] [] f fd) (T : Tx K mg ca) :
    FnOk P w K mg base (L2.CX P w) 1 f fd ["text"] (spD K ca (F1 m_parted)) := by
  refine def_D D0 sc_parted (fun ds h => ?_) (fun cdv A outer s H E ds hr nb => ?_)
  · obtain ⟨v_text, rfl⟩ := F1_inv h
    rfl
  · obtain ⟨v_text, rfl⟩ := F1_inv nb
    have tk : Takes (cxOf (L2.CX P w) P w K mg base ["text", "ahead", "asked", "row"] "parted" (defScope st_parted) f cdv A outer s H E) (WD E) := takes_of rfl rfl rfl rfl
    have po : PassesOwn (model P w) (cxOf (L2.CX P w) P w K mg base ["text", "ahead", "asked", "row"] "parted" (defScope st_parted) f cdv A outer s H E).A (cxOf (L2.CX P w) P w K mg base ["text", "ahead", "asked", "row"] "parted" (defScope st_parted) f cdv A outer s H E).env (cxOf (L2.CX P w) P w K mg base ["text", "ahead", "asked", "row"] "parted" (defScope st_parted) f cdv A outer s H E).xe := passes_of rfl
    exact ⟨Unit, fun _ => [], _, s_weak (ρ' := [some (.d v_text), none, none, none]) (le_refl _) (s_set (i := 1) sc_parted.nd rfl (lo vl_parted 1 rfl) e_str le_nil (fun v_ahead_1 => (s_setL (i := 2) sc_parted.nd rfl (lo vl_parted 2 rfl) (e_lst a_nil) le_nil (fun v_asked_2 => (s_seq (emb' := (fun (s : List D × D) => [some (.d v_text), some (.d s.2), some (.ol s.1), none])) (s_forN (emb := (fun (s : List D × D) => [some (.d v_text), some (.d s.2), some (.ol s.1), none])) (s0 := (v_asked_2, v_ahead_1)) (i := 3) po rfl (i_seq (e_pub (e_split (e_var (i := 0) rfl (vi vl_parted 0 rfl) rfl (dbg1 dl_parted 0 rfl) (dbg2 dl_parted 0 rfl)) e_str))) sc_parted.nd rfl (lo vl_parted 3 rfl) le_nil (le_s (le_s (le_s (le_n le_nil)))) (fun s8 v_row_10 => (s_one (s_if (t_cmp (op_neA hr.units) l_ne (e_var (i := 3) rfl (vi vl_parted 3 rfl) rfl (dbg1 dl_parted 3 rfl) (dbg2 dl_parted 3 rfl)) e_str (nomark _)) le_nil (s_one (s_if (t_lend (i := 2) rfl (PW.pt (w_or (t_truth (e_var (i := 2) rfl (vi vl_parted 2 rfl) rfl (dbg1 dl_parted 2 rfl) (dbg2 dl_parted 2 rfl))) (w_or1 (t_cmp (op_eqA hr.units) l_eq (e_item (e_pub (e_split (e_var (i := 3) rfl (vi vl_parted 3 rfl) rfl (dbg1 dl_parted 3 rfl) (dbg2 dl_parted 3 rfl)) e_str)) e_int) e_str (nomark _)))))) le_nil (s_append (i := 2) rfl (vi vl_parted 2 rfl) (dbg1 dl_parted 2 rfl) (dbg2 dl_parted 2 rfl) rfl (e_var (i := 3) rfl (vi vl_parted 3 rfl) rfl (dbg1 dl_parted 3 rfl) (dbg2 dl_parted 3 rfl)) le_nil (fun v_asked_24 => (s_nil (s := (v_asked_24, s8.2)) (le_s (le_s (le_s (le_n le_nil))))))) (s_set (i := 1) sc_parted.nd rfl (lo vl_parted 1 rfl) (e_op op_addA l_add (e_op op_addA l_add (e_var (i := 1) rfl (vi vl_parted 1 rfl) rfl (dbg1 dl_parted 1 rfl) (dbg2 dl_parted 1 rfl)) (e_var (i := 3) rfl (vi vl_parted 3 rfl) rfl (dbg1 dl_parted 3 rfl) (dbg2 dl_parted 3 rfl))) e_str) le_nil (fun v_ahead_25 => (s_nil (s := (s8.1, v_ahead_25)) (le_s (le_s (le_s (le_n le_nil))))))))) (s_nil (s := (s8.1, s8.2)) (le_s (le_s (le_s (le_n le_nil))))))))) (fun s30 => (s_pub (i := 2) rfl (s_one (s_ret (e_tup (a_cons (e_var (i := 1) rfl (vi vl_parted 1 rfl) rfl (dbg1 dl_parted 1 rfl) (dbg2 dl_parted 1 rfl)) (a_cons (e_var (i := 2) rfl (vi vl_parted 2 rfl) rfl (dbg1 dl_parted 2 rfl) (dbg2 dl_parted 2 rfl)) a_nil))) le_nil))))))))), rfl⟩
abbrev st__law_name : Stmt := top 3
theorem sc__law_name : FnScope ["seed", "name", "k"] ["seed"] (defScope st__law_name) := ⟨rfl, rfl, rfl, by decide +kernel, rfl, by decide +kernel, by decide +kernel⟩
theorem vl__law_name : ((["seed", "name", "k"] : List Str).all (locB (defScope st__law_name))) = true := by decide +kernel
theorem dl__law_name : ((["seed", "name", "k"] : List Str).all dbgB) = true := by decide +kernel
theorem gls__law_name : ((["range"] : List Str).all (glB (defScope st__law_name))) = true := by decide +kernel
theorem ok__law_name (D0 : FunD K "_law_name" "_law_name" (defArgs st__law_name) (defBody st__law_name) (defScope st__law_name) [] [] f fd) (T : Tx K mg ca) :
    FnOk P w K mg base (L2.CX P w) 1 f fd ["seed"] (spD K ca (F1 m__law_name)) := by
  refine def_D D0 sc__law_name (fun ds h => ?_) (fun cdv A outer s H E ds hr nb => ?_)
  · obtain ⟨v_seed, rfl⟩ := F1_inv h
    rfl
  · obtain ⟨v_seed, rfl⟩ := F1_inv nb
    have tk : Takes (cxOf (L2.CX P w) P w K mg base ["seed", "name", "k"] "_law_name" (defScope st__law_name) f cdv A outer s H E) (WD E) := takes_of rfl rfl rfl rfl
    have po : PassesOwn (model P w) (cxOf (L2.CX P w) P w K mg base ["seed", "name", "k"] "_law_name" (defScope st__law_name) f cdv A outer s H E).A (cxOf (L2.CX P w) P w K mg base ["seed", "name", "k"] "_law_name" (defScope st__law_name) f cdv A outer s H E).env (cxOf (L2.CX P w) P w K mg base ["seed", "name", "k"] "_law_name" (defScope st__law_name) f cdv A outer s H E).xe := passes_of rfl
    exact ⟨Unit, fun _ => [], _, s_weak (ρ' := [some (.d v_seed), none, none]) (le_refl _) (s_set (i := 1) sc__law_name.nd rfl (lo vl__law_name 1 rfl) e_str le_nil (fun v_name_1 => (s_seq (emb' := (fun (s : D × D) => [some (.d s.1), some (.d s.2), none])) (s_forN (emb := (fun (s : D × D) => [some (.d s.1), some (.d s.2), none])) (s0 := (v_seed, v_name_1)) (i := 2) po rfl (i_range1 (gl gls__law_name 0 rfl) T.n_range (a_cons (e_op op_addA l_add e_int (e_op op_mod l_mod (e_var (i := 0) rfl (vi vl__law_name 0 rfl) rfl (dbg1 dl__law_name 0 rfl) (dbg2 dl__law_name 0 rfl)) e_int)) a_nil)) sc__law_name.nd rfl (lo vl__law_name 2 rfl) le_nil (le_s (le_s (le_n le_nil))) (fun s9 v_k_11 => (s_set (i := 0) sc__law_name.nd rfl (lo vl__law_name 0 rfl) (e_op op_mod l_mod (e_op op_mulW l_mul (e_op op_addA l_add (e_var (i := 0) rfl (vi vl__law_name 0 rfl) rfl (dbg1 dl__law_name 0 rfl) (dbg2 dl__law_name 0 rfl)) e_int) e_int) e_int) le_nil (fun v_seed_12 => (s_set (i := 1) sc__law_name.nd rfl (lo vl__law_name 1 rfl) (e_op op_addA l_add (e_var (i := 1) rfl (vi vl__law_name 1 rfl) rfl (dbg1 dl__law_name 1 rfl) (dbg2 dl__law_name 1 rfl)) (e_item e_str (e_op op_mod l_mod (e_var (i := 0) rfl (vi vl__law_name 0 rfl) rfl (dbg1 dl__law_name 0 rfl) (dbg2 dl__law_name 0 rfl)) e_int))) le_nil (fun v_name_19 => (s_nil (s := (v_seed_12, v_name_19)) (le_s (le_s (le_n le_nil)))))))))) (fun s26 => (s_one (s_ret (e_var (i := 1) rfl (vi vl__law_name 1 rfl) rfl (dbg1 dl__law_name 1 rfl) (dbg2 dl__law_name 1 rfl)) le_nil)))))), rfl⟩
abbrev st__law_row : Stmt := top 4
theorem sc__law_row : FnScope ["cell", "menu", "number", "name"] ["cell"] (defScope st__law_row) := ⟨rfl, rfl, rfl, by decide +kernel, rfl, by decide +kernel, by decide +kernel⟩
theorem vl__law_row : ((["cell", "menu", "number", "name"] : List Str).all (locB (defScope st__law_row))) = true := by decide +kernel
theorem dl__law_row : ((["cell", "menu", "number", "name"] : List Str).all dbgB) = true := by decide +kernel
theorem gls__law_row : ((["_law_name"] : List Str).all (glB (defScope st__law_row))) = true := by decide +kernel
theorem ok__law_row (D0 : FunD K "_law_row" "_law_row" (defArgs st__law_row) (defBody st__law_row) (defScope st__law_row) [] [] f fd) (T : Tx K mg ca) (c__law_name : CalD P w K mg base ca "_law_name" 1 (F1 m__law_name)) :
    FnOk P w K mg base (L2.CX P w) 2 f fd ["cell"] (spD K ca (F1 m__law_row)) := by
  refine def_D D0 sc__law_row (fun ds h => ?_) (fun cdv A outer s H E ds hr nb => ?_)
  · obtain ⟨v_cell, rfl⟩ := F1_inv h
    rfl
  · obtain ⟨v_cell, rfl⟩ := F1_inv nb
    have tk : Takes (cxOf (L2.CX P w) P w K mg base ["cell", "menu", "number", "name"] "_law_row" (defScope st__law_row) f cdv A outer s H E) (WD E) := takes_of rfl rfl rfl rfl
    have po : PassesOwn (model P w) (cxOf (L2.CX P w) P w K mg base ["cell", "menu", "number", "name"] "_law_row" (defScope st__law_row) f cdv A outer s H E).A (cxOf (L2.CX P w) P w K mg base ["cell", "menu", "number", "name"] "_law_row" (defScope st__law_row) f cdv A outer s H E).env (cxOf (L2.CX P w) P w K mg base ["cell", "menu", "number", "name"] "_law_row" (defScope st__law_row) f cdv A outer s H E).xe := passes_of rfl
    exact ⟨Unit, fun _ => [], _, s_weak (ρ' := [some (.d v_cell), none, none, none]) (le_refl _) (s_set (i := 1) sc__law_row.nd rfl (lo vl__law_row 1 rfl) (e_pub (e_lst (a_cons e_str (a_cons e_str (a_cons e_str (a_cons e_str (a_cons e_str (a_cons e_str (a_cons e_str (a_cons e_str (a_cons e_str (a_cons e_str a_nil)))))))))))) le_nil (fun v_menu_1 => (s_set (i := 1) sc__law_row.nd rfl (lo vl__law_row 1 rfl) (e_op op_addA l_add (e_var (i := 1) rfl (vi vl__law_row 1 rfl) rfl (dbg1 dl__law_row 1 rfl) (dbg2 dl__law_row 1 rfl)) (e_pub (e_lst (a_cons e_str (a_cons e_str (a_cons e_str (a_cons e_str (a_cons e_str (a_cons e_str (a_cons e_str a_nil)))))))))) le_nil (fun v_menu_24 => (s_ifx (nE := fun e : Empty => e.elim) (t_cmp op_lt l_lt (e_op op_mod l_mod (e_var (i := 0) rfl (vi vl__law_row 0 rfl) rfl (dbg1 dl__law_row 0 rfl) (dbg2 dl__law_row 0 rfl)) e_int) e_int (nomark _)) le_nil (s_one (s_ret (e_item (e_var (i := 1) rfl (vi vl__law_row 1 rfl) rfl (dbg1 dl__law_row 1 rfl) (dbg2 dl__law_row 1 rfl)) (e_op op_mod l_mod (e_var (i := 0) rfl (vi vl__law_row 0 rfl) rfl (dbg1 dl__law_row 0 rfl) (dbg2 dl__law_row 0 rfl)) e_int)) le_nil)) (s_set (i := 2) sc__law_row.nd rfl (lo vl__law_row 2 rfl) (e_op op_mod l_mod (e_op op_fdivW l_fdiv (e_var (i := 0) rfl (vi vl__law_row 0 rfl) rfl (dbg1 dl__law_row 0 rfl) (dbg2 dl__law_row 0 rfl)) e_int) e_int) le_nil (fun v_number_53 => (s_set (i := 3) sc__law_row.nd rfl (lo vl__law_row 3 rfl) (e_call c__law_name (hr.mono (by decide)) (gl gls__law_row 0 rfl) tk (a_cons (e_op op_mod l_mod (e_op op_fdivW l_fdiv (e_var (i := 0) rfl (vi vl__law_row 0 rfl) rfl (dbg1 dl__law_row 0 rfl) (dbg2 dl__law_row 0 rfl)) e_int) e_int) a_nil)) le_nil (fun v_name_58 => (s_one (s_ret (e_join3 (e_fmt (e_var (i := 3) rfl (vi vl__law_row 3 rfl) rfl (dbg1 dl__law_row 3 rfl) (dbg2 dl__law_row 3 rfl))) e_str (e_fmt (e_var (i := 2) rfl (vi vl__law_row 2 rfl) rfl (dbg1 dl__law_row 2 rfl) (dbg2 dl__law_row 2 rfl)))) le_nil))))))))))), rfl⟩
abbrev st_law : Stmt := top 5
theorem sc_law : FnScope ["script", "rows", "ahead", "behind", "row", "text", "found", "cell"] ["script"] (defScope st_law) := ⟨rfl, rfl, rfl, by decide +kernel, rfl, by decide +kernel, by decide +kernel⟩
theorem vl_law : ((["script", "rows", "ahead", "behind", "row", "text", "found"] : List Str).all (locB (defScope st_law))) = true := by decide +kernel
theorem ll_law : ((["rows"] : List Str).all (llB (defScope st_law))) = true := by decide +kernel
theorem dl_law : ((["script", "rows", "ahead", "behind", "row", "text", "found"] : List Str).all dbgB) = true := by decide +kernel
theorem gls_law : ((["len", "parted", "isinstance", "tuple", "str", "list"] : List Str).all (glB (defScope st_law))) = true := by decide +kernel
theorem ok_law (D0 : FunD K "law" "law" (defArgs st_law) (defBody st_law) (defScope st_law) [] [] f fd) (T : Tx K mg ca) (c__law_row : CalD P w K mg base ca "_law_row" 2 (F1 m__law_row)) (c_parted : CalD P w K mg base ca "parted" 1 (F1 m_parted)) :
    FnOk P w K mg base (L2.CX P w) 3 f fd ["script"] (spD K ca (F1 m_law)) := by
  refine def_D D0 sc_law (fun ds h => ?_) (fun cdv A outer s H E ds hr nb => ?_)
  · obtain ⟨v_script, rfl⟩ := F1_inv h
    rfl
  · obtain ⟨v_script, rfl⟩ := F1_inv nb
    have tk : Takes (cxOf (L2.CX P w) P w K mg base ["script", "rows", "ahead", "behind", "row", "text", "found", "cell"] "law" (defScope st_law) f cdv A outer s H E) (WD E) := takes_of rfl rfl rfl rfl
    have po : PassesOwn (model P w) (cxOf (L2.CX P w) P w K mg base ["script", "rows", "ahead", "behind", "row", "text", "found", "cell"] "law" (defScope st_law) f cdv A outer s H E).A (cxOf (L2.CX P w) P w K mg base ["script", "rows", "ahead", "behind", "row", "text", "found", "cell"] "law" (defScope st_law) f cdv A outer s H E).env (cxOf (L2.CX P w) P w K mg base ["script", "rows", "ahead", "behind", "row", "text", "found", "cell"] "law" (defScope st_law) f cdv A outer s H E).xe := passes_of rfl
    exact ⟨Unit, fun _ => [], _, s_weak (ρ' := [some (.d v_script), none, none, none, none, none, none, none]) (le_refl _) (s_setLcN (own := [((Str.ofString "cell"), 7)]) (i := 7) (j := 1) rfl sc_law.nd rfl (lcl ll_law 0 rfl) (sw_true rfl (lcl ll_law 0 rfl) rfl (by decide +kernel)) (i_seq (e_var (i := 0) rfl (vi vl_law 0 rfl) rfl (dbg1 dl_law 0 rfl) (dbg2 dl_law 0 rfl))) rfl (blkOk_by (by show blkC ["script", "rows", "ahead", "behind", "row", "text", "found", "cell"] (defScope st_law) _ _ = true; decide +kernel)) (le_refl _) rfl (by decide) le_nil (fun _ _ _ _ _ => pg_name (i := 7) sc_law.nd rfl (by first | exact Or.inl rfl | exact Or.inr rfl)) (fun v_cell_3 _ _ _ _ _ => ts_nil) (fun v_cell_3 _ _ _ _ _ => (e_call c__law_row (hr.mono (by decide)) rfl takes0 (a_cons (e_var (i := 7) rfl (by first | exact Or.inl rfl | exact Or.inr (Or.inl rfl) | exact Or.inr (Or.inr rfl)) rfl (by decide) (by decide)) a_nil))) (fun v_rows_1 => (s_pub (i := 1) rfl (s_set (i := 2) sc_law.nd rfl (lo vl_law 2 rfl) e_str le_nil (fun v_ahead_9 => (s_setL (i := 3) sc_law.nd rfl (lo vl_law 3 rfl) (e_lst a_nil) le_nil (fun v_behind_10 => (s_seq (emb' := (fun (s : List D × D) => [some (.d v_script), some (.d (D.lst v_rows_1)), some (.d s.2), some (.ol s.1), none, none, none, none])) (s_forN (emb := (fun (s : List D × D) => [some (.d v_script), some (.d (D.lst v_rows_1)), some (.d s.2), some (.ol s.1), none, none, none, none])) (s0 := (v_behind_10, v_ahead_9)) (i := 4) po rfl (i_seq (e_var (i := 1) rfl (vi vl_law 1 rfl) rfl (dbg1 dl_law 1 rfl) (dbg2 dl_law 1 rfl))) sc_law.nd rfl (lo vl_law 4 rfl) le_nil (le_s (le_s (le_s (le_s (le_n (le_n (le_n (le_n le_nil)))))))) (fun s13 v_row_15 => (s_ifx (nE := fun e : Empty => e.elim) (t_cmp (op_eqA hr.units) l_eq (e_var (i := 4) rfl (vi vl_law 4 rfl) rfl (dbg1 dl_law 4 rfl) (dbg2 dl_law 4 rfl)) e_str (nomark _)) le_nil (s_one (s_continue (s := (s13.1, s13.2)) (le_s (le_s (le_s (le_s (le_n (le_n (le_n (le_n le_nil)))))))))) (s_one (s_if (PW.pt (w_or (t_cmp op_gt l_gt (e_ownLen (i := 3) rfl (vi vl_law 3 rfl) (dbg1 dl_law 3 rfl) (dbg2 dl_law 3 rfl) rfl (gl gls_law 0 rfl) T.n_len b_len) e_int (nomark _)) (w_or (t_cmp (op_eqA hr.units) l_eq (e_var (i := 4) rfl (vi vl_law 4 rfl) rfl (dbg1 dl_law 4 rfl) (dbg2 dl_law 4 rfl)) e_str (nomark _)) (w_or1 (t_cmp (op_eqA hr.units) l_eq (e_slice (e_var (i := 4) rfl (vi vl_law 4 rfl) rfl (dbg1 dl_law 4 rfl) (dbg2 dl_law 4 rfl)) p_none (p_some e_int)) e_str (nomark _)))))) le_nil (s_append (i := 3) rfl (vi vl_law 3 rfl) (dbg1 dl_law 3 rfl) (dbg2 dl_law 3 rfl) rfl (e_var (i := 4) rfl (vi vl_law 4 rfl) rfl (dbg1 dl_law 4 rfl) (dbg2 dl_law 4 rfl)) le_nil (fun v_behind_32 => (s_nil (s := (v_behind_32, s13.2)) (le_s (le_s (le_s (le_s (le_n (le_n (le_n (le_n le_nil))))))))))) (s_set (i := 2) sc_law.nd rfl (lo vl_law 2 rfl) (e_op op_addA l_add (e_op op_addA l_add (e_var (i := 2) rfl (vi vl_law 2 rfl) rfl (dbg1 dl_law 2 rfl) (dbg2 dl_law 2 rfl)) (e_var (i := 4) rfl (vi vl_law 4 rfl) rfl (dbg1 dl_law 4 rfl) (dbg2 dl_law 4 rfl))) e_str) le_nil (fun v_ahead_33 => (s_nil (s := (s13.1, v_ahead_33)) (le_s (le_s (le_s (le_s (le_n (le_n (le_n (le_n le_nil)))))))))))))))) (fun s38 => (s_set (i := 5) sc_law.nd rfl (lo vl_law 5 rfl) (e_join e_str (e_var (i := 1) rfl (vi vl_law 1 rfl) rfl (dbg1 dl_law 1 rfl) (dbg2 dl_law 1 rfl))) le_nil (fun v_text_39 => (s_seq (emb' := (fun (s : D) => [some (.d v_script), some (.d (D.lst v_rows_1)), some (.d s38.2), some (.ol s38.1), none, some (.d s), none, none])) (s_if (PW.pt (w_and (t_cmp op_gt l_gt (e_callB call_len l_len (gl gls_law 0 rfl) T.n_len b_len (a_cons (e_var (i := 0) rfl (vi vl_law 0 rfl) rfl (dbg1 dl_law 0 rfl) (dbg2 dl_law 0 rfl)) a_nil)) e_int (nomark _)) (w_and1 (t_cmp (op_eqA hr.units) l_eq (e_op op_mod l_mod (e_op op_fdivW l_fdiv (e_item (e_var (i := 0) rfl (vi vl_law 0 rfl) rfl (dbg1 dl_law 0 rfl) (dbg2 dl_law 0 rfl)) e_int) e_int) e_int) e_int (nomark _))))) le_nil (s_set (i := 5) sc_law.nd rfl (lo vl_law 5 rfl) (e_op op_addA l_add (e_var (i := 5) rfl (vi vl_law 5 rfl) rfl (dbg1 dl_law 5 rfl) (dbg2 dl_law 5 rfl)) e_str) le_nil (fun v_text_57 => (s_nil (s := v_text_57) (le_s (le_s (le_s (le_s (le_n (le_s (le_n (le_n le_nil))))))))))) (s_nil (s := v_text_39) (le_s (le_s (le_s (le_s (le_n (le_s (le_n (le_n le_nil)))))))))) (fun s60 => (s_set (i := 6) sc_law.nd rfl (lo vl_law 6 rfl) (e_call c_parted (hr.mono (by decide)) (gl gls_law 1 rfl) tk (a_cons (e_var (i := 5) rfl (vi vl_law 5 rfl) rfl (dbg1 dl_law 5 rfl) (dbg2 dl_law 5 rfl)) a_nil)) le_nil (fun v_found_61 => (s_ifx (nE := fun e : Empty => e.elim) (PW.pt (w_or (t_not (t_truth (e_isT (e_var (i := 6) rfl (vi vl_law 6 rfl) rfl (dbg1 dl_law 6 rfl) (dbg2 dl_law 6 rfl)) (gl gls_law 2 rfl) T.n_isinstance b_isinstance (gl gls_law 3 rfl) T.n_tuple b_tuple))) (w_or1 (t_cmp (op_neA hr.units) l_ne (e_callB call_len l_len (gl gls_law 0 rfl) T.n_len b_len (a_cons (e_var (i := 6) rfl (vi vl_law 6 rfl) rfl (dbg1 dl_law 6 rfl) (dbg2 dl_law 6 rfl)) a_nil)) e_int (nomark _))))) le_nil (s_one (s_ret e_bl le_nil)) (s_ifx (nE := fun e : Empty => e.elim) (PW.pt (w_or (t_not (t_truth (e_isT (e_item (e_var (i := 6) rfl (vi vl_law 6 rfl) rfl (dbg1 dl_law 6 rfl) (dbg2 dl_law 6 rfl)) e_int) (gl gls_law 2 rfl) T.n_isinstance b_isinstance (gl gls_law 4 rfl) T.n_str b_str))) (w_or (t_not (t_truth (e_isT (e_item (e_var (i := 6) rfl (vi vl_law 6 rfl) rfl (dbg1 dl_law 6 rfl) (dbg2 dl_law 6 rfl)) e_int) (gl gls_law 2 rfl) T.n_isinstance b_isinstance (gl gls_law 5 rfl) T.n_list b_list))) (w_or1 (t_cmp (op_neA hr.units) l_ne (e_item (e_var (i := 6) rfl (vi vl_law 6 rfl) rfl (dbg1 dl_law 6 rfl) (dbg2 dl_law 6 rfl)) e_int) (e_var (i := 2) rfl (vi vl_law 2 rfl) rfl (dbg1 dl_law 2 rfl) (dbg2 dl_law 2 rfl)) (nomark _)))))) le_nil (s_one (s_ret e_bl le_nil)) (s_pub (i := 3) rfl (s_seq (emb' := (fun (s : Unit) => [some (.d v_script), some (.d (D.lst v_rows_1)), some (.d s38.2), some (.d (D.lst s38.1)), none, some (.d s60), some (.d v_found_61), none])) (s_forN (emb := (fun (s : Unit) => [some (.d v_script), some (.d (D.lst v_rows_1)), some (.d s38.2), some (.d (D.lst s38.1)), none, some (.d s60), some (.d v_found_61), none])) (s0 := ()) (i := 4) po rfl (i_seq (e_item (e_var (i := 6) rfl (vi vl_law 6 rfl) rfl (dbg1 dl_law 6 rfl) (dbg2 dl_law 6 rfl)) e_int)) sc_law.nd rfl (lo vl_law 4 rfl) le_nil (le_s (le_s (le_s (le_s (le_n (le_s (le_s (le_n le_nil)))))))) (fun s94 v_row_96 => (s_ifx (nE := fun e : Empty => e.elim) (t_not (t_truth (e_isT (e_var (i := 4) rfl (vi vl_law 4 rfl) rfl (dbg1 dl_law 4 rfl) (dbg2 dl_law 4 rfl)) (gl gls_law 2 rfl) T.n_isinstance b_isinstance (gl gls_law 4 rfl) T.n_str b_str))) le_nil (s_one (s_ret e_bl le_nil)) (s_nil (s := ()) (le_s (le_s (le_s (le_s (le_n (le_s (le_s (le_n le_nil)))))))))))) (fun s101 => (s_one (s_ret (e_cmp (op_eqA hr.units) l_eq (e_item (e_var (i := 6) rfl (vi vl_law 6 rfl) rfl (dbg1 dl_law 6 rfl) (dbg2 dl_law 6 rfl)) e_int) (e_var (i := 3) rfl (vi vl_law 3 rfl) rfl (dbg1 dl_law 3 rfl) (dbg2 dl_law 3 rfl)) (nomark _)) le_nil)))))))))))))))))))))), rfl⟩
end
/-! ### the head -/
def d_parted : He.DefD := ⟨("parted", none), "parted", "parted", defArgs st_parted, defBody st_parted, defScope st_parted, [], []⟩
def d__law_name : He.DefD := ⟨("_law_name", none), "_law_name", "_law_name", defArgs st__law_name, defBody st__law_name, defScope st__law_name, [], []⟩
def d__law_row : He.DefD := ⟨("_law_row", none), "_law_row", "_law_row", defArgs st__law_row, defBody st__law_row, defScope st__law_row, [], []⟩
def d_law : He.DefD := ⟨("law", none), "law", "law", defArgs st_law, defBody st_law, defScope st_law, [], []⟩
def fn : List He.DefD := [d_parted, d__law_name, d__law_row, d_law]
def fa : List He.Fa := [.glo "parted", .glo "_law_name", .glo "_law_row", .glo "law", .free "range", .free "isinstance", .free "len", .free "list", .free "str", .free "tuple"]
abbrev R0 : PySem.W.OpenRow := PySem.W.OpenLaw.row PySem.Challenge.rw_lockhouse_k81_two_parts
abbrev hk : PySem.W.Hook := He.hookD 5 fa fn
def ob (s : PySem.W.SharedT) : He.AlD := He.obsDG 5 fa fn (HandSHeadRun.getT s)
theorem ob_eq (s : PySem.W.SharedT) : ob s = hk.obs s.abs := He.obsDG_eq (HandSHeadRun.getT_eq s)
def names : List PySem.Str := (["parted", "_law_name", "_law_row"] : List PySem.Str)
theorem run (w : World) : HandSHeadRun.RunEq R0 (PySem.W.view R0.prog [5]) hk ob 640 names w := by
  intro os
  kernel_rfl
def caOf (K : PySem.W.Frag) : Nat → Addr := fun j => match j with
  | _ => 0
theorem facts {P : Program} {w : World} {K : PySem.W.Frag} {h : Heap} {mg : Str → Option Value} {f : Addr} (X : K.In h) (G : h.Ns mainGlobals mg) (hfa : mg ("law" : Str) = some (.ref f)) (c : He.SaysD fa fn K) :
    ∃ fd : FuncData, (∀ (s : Shared) (v : Value), BindsTo s fd ⟨[v], []⟩ [("script", v)]) ∧ ∀ base : Heap, K.In base → base.Ns mainGlobals mg → FnOk P w K mg base (L2.CX P w) 3 f fd ["script"] (spD K (caOf K) (F1 m_law)) := by
  obtain ⟨fd_parted, D_parted⟩ := c.def_ 0 (d := d_parted) rfl
  obtain ⟨fd__law_name, D__law_name⟩ := c.def_ 1 (d := d__law_name) rfl
  obtain ⟨fd__law_row, D__law_row⟩ := c.def_ 2 (d := d__law_row) rfl
  obtain ⟨fd_law, D_law⟩ := c.def_ 3 (d := d_law) rfl
  have T : Tx K mg (caOf K) := ⟨He.free_ok X G (c.fact 4 (f := .free "range") rfl), He.free_ok X G (c.fact 5 (f := .free "isinstance") rfl), He.free_ok X G (c.fact 6 (f := .free "len") rfl), He.free_ok X G (c.fact 7 (f := .free "list") rfl), He.free_ok X G (c.fact 8 (f := .free "str") rfl), He.free_ok X G (c.fact 9 (f := .free "tuple") rfl)⟩
  have e := hfa.symm.trans (He.glo_ok X G (c.fact 3 (f := .glo "law") rfl))
  cases e
  have b := FunD.bindsA (ps := ["script"]) D_law fun _ _ _ _ _ _ us hl => match us, hl with | [_], _ => rfl
  refine ⟨fd_law, fun s v => b s [v] rfl, fun base _ _ => ?_⟩
  have c_parted : CalD P w K mg base (caOf K) "parted" 1 (F1 m_parted) := ⟨⟨_, _, ["text"], [], (ok_parted D_parted T), (He.glo_ok X G (c.fact 0 (f := .glo "parted") rfl)), D_parted.kp, FunD.bindsN D_parted (fun _ _ _ _ _ _ us hl => match us, hl with | [_], _ => rfl), .nil⟩⟩
  have c__law_name : CalD P w K mg base (caOf K) "_law_name" 1 (F1 m__law_name) := ⟨⟨_, _, ["seed"], [], (ok__law_name D__law_name T), (He.glo_ok X G (c.fact 1 (f := .glo "_law_name") rfl)), D__law_name.kp, FunD.bindsN D__law_name (fun _ _ _ _ _ _ us hl => match us, hl with | [_], _ => rfl), .nil⟩⟩
  have c__law_row : CalD P w K mg base (caOf K) "_law_row" 2 (F1 m__law_row) := ⟨⟨_, _, ["cell"], [], (ok__law_row D__law_row T c__law_name), (He.glo_ok X G (c.fact 2 (f := .glo "_law_row") rfl)), D__law_row.kp, FunD.bindsN D__law_row (fun _ _ _ _ _ _ us hl => match us, hl with | [_], _ => rfl), .nil⟩⟩
  exact ok_law D_law T c__law_row c_parted
end Lw
namespace Lk
open PySem PySem.Spec PyProof.Rows L2
/-! texts -/
theorem strcut_le (z : Str) (lo hi : Option Int) : (cutS z lo hi).length ≤ z.length := by
  have hz : z.length = z.cps.toList.length := by simp [Str.length]
  show ((z.cps.toList.drop (HT.sIx z.length 0 lo)).take (HT.sIx z.length z.length hi - HT.sIx z.length 0 lo)).toArray.size ≤ z.length
  rw [List.size_toArray, List.length_take, List.length_drop, hz]
  omega
theorem strcat_len (a b : Str) : (a ++ b).length = a.length + b.length := by
  show (a.cps ++ b.cps).size = a.cps.size + b.cps.size
  exact Array.size_append
theorem add_str {a b : Str} (h : a.length + b.length ≤ 100000) : D.add (.str a) (.str b) = .ok (.str (a ++ b)) := if_pos h
theorem one_len (c : Nat) : (⟨#[c]⟩ : Str).length = 1 := rfl
theorem item_str {s : Str} {i : Nat} (h : i < s.cps.toList.length) (hl : s.length ≤ 100000) : D.item (.str s) (.int (i : Int)) = .ok (.str ⟨#[s.cps.toList[i]]⟩) := by
  show (if s.length ≤ 100000 then (match L2.atI s.cps.toList (i : Int) with | some c => Res.ok (D.str ⟨#[c]⟩) | none => Res.bug) else Res.bug) = _
  rw [if_pos hl, atI_nat h]
theorem slice_str {s : Str} {lo hi : Option Int} (hl : s.length ≤ 100000) : D.slice (.str s) lo hi = .ok (.str (cutS s lo hi)) := if_pos hl
theorem len_str {s : Str} (hl : s.length ≤ 100000) : D.len [.str s] = .ok (.int (s.length : Int)) := if_pos hl
theorem notin_sign (c : Nat) (z : Str) : D.notin (.str ⟨#[c]⟩) (.str z) = .ok (.bl (!decide (c ∈ z.cps.toList))) := rfl
theorem loop_all {S' B T α : Type} {step : Unit → D → Res (Out Unit Unit T)} {c : α → D} {r : T} (p : α → Bool) : ∀ (xs : List α), (∀ x ∈ xs, step () (c x) = if p x = true then .ok (.nx ()) else .ok (.rt r)) →
    (loopR step (xs.map c) () : Res (Out Unit B T)) = if xs.all p = true then .ok (.nx ()) else .ok (.rt r)
  | [], _ => rfl
  | x :: xs, h => by
    have e := h x List.mem_cons_self
    have ih := loop_all (S' := S') (B := B) (step := step) (c := c) (r := r) p xs fun y hy => h y (List.mem_cons_of_mem _ hy)
    by_cases q : p x = true
    · rw [if_pos q] at e
      have ea : (x :: xs).all p = xs.all p := by simp [q]
      rw [ea, ← ih]
      simp only [List.map_cons, loopR, e]
      rfl
    · rw [if_neg q] at e
      have ea : (x :: xs).all p = false := by simp [q]
      rw [ea]
      simp only [List.map_cons, loopR, e]
      rfl
end Lk
namespace Lk
open PySem PySem.Spec PyProof.Rows L2
theorem sp_split {s : Nat} {y : Str} (ey : TL.tl y = [s]) (hk : y.cps.all (· < 256) = true) {parts : List Str} (hne : parts ≠ []) (hp : ∀ p ∈ parts, s ∉ TL.tl p) : Txt.split (Txt.join y parts) y = parts :=
  TL.split_join ey hk hne hp
theorem dig_range {n : Nat} {c : Nat} (h : c ∈ (Str.ofString (toString (n : Int))).cps.toList) : 48 ≤ c ∧ c ≤ 57 := by
  rw [PySem.Str.ofString_eq_toList] at h
  have h2 : c ∈ List.map Char.toNat (toString (n : Int)).toList := by simpa using h
  obtain ⟨ch, hc, rfl⟩ := List.mem_map.mp h2
  have e : (toString (n : Int)).toList = Nat.toDigits 10 n := by
    have : toString (n : Int) = toString n := rfl
    rw [this]
    simp [Nat.repr, toString]
  rw [e] at hc
  have d := Nat.isDigit_of_mem_toDigits (by decide) (by decide) hc
  simp only [Char.isDigit, Bool.and_eq_true, decide_eq_true_eq] at d
  obtain ⟨d1, d2⟩ := d
  exact ⟨d1, d2⟩
end Lk
namespace Lw
open PySem Lk
abbrev S' (s : String) : Str := Str.ofString s
def cl (x : Str) : List Nat := x.cps.toList
theorem sp_cl : cl (S' " ") = [32] := by decide +kernel
theorem nl_cl : cl (S' "\n") = [10] := by decide +kernel
theorem sp_k : (S' " ").cps.all (· < 256) = true := by decide +kernel
theorem nl_k : (S' "\n").cps.all (· < 256) = true := by decide +kernel
def C2 (x : Str) : Bool := (x == S' "keeper") || (L2.cutS x none (some 7) == S' "keeper ")
structure RowOk (x : Str) : Prop where
  len : x.length ≤ 60
  ok : PyData.strOk x = true
  nl : 10 ∉ cl x
  hd : ∃ p ps, Txt.split x (S' " ") = p :: ps ∧ (p == S' "keeper") = C2 x
theorem row_parts {x p : Str} {ps : List Str} (ex : Txt.join (S' " ") (p :: ps) = x) (hb : ∀ q ∈ p :: ps, 32 ∉ cl q) (hl : x.length ≤ 60) (ho : PyData.strOk x = true) (hn : 10 ∉ cl x) (hc : (p == S' "keeper") = C2 x) : RowOk x :=
  ⟨hl, ho, hn, p, ps, by rw [← ex]; exact sp_split sp_cl sp_k (by simp) hb, hc⟩
def menuP : List (Str × List Str) := [(S' "", []), (S' "keeper", []), (S' "keeper", [S' "5"]), (S' "keeper", [S' "", S' "5"]), (S' "keeper", [S' ""]), (S' "keepers", []), (S' "", [S' "keeper"]), (S' "Keeper", []), (S' "keeper\t5", []), (S' "keepe", []),
  (S' "a", [S' "keeper"]), (S' "", []), (S' "work", []), (S' "keeper,", []), (S' "keeperkeeper", [S' "1"]), (S' "", [S' ""]), (S' "", [S' "", S' ""])]
def menu : List Str := [S' "", S' "keeper", S' "keeper 5", S' "keeper  5", S' "keeper ", S' "keepers", S' " keeper", S' "Keeper", S' "keeper\t5", S' "keepe", S' "a keeper", S' "", S' "work", S' "keeper,", S' "keeperkeeper 1", S' " ", S' "  "]
def jn (y : Str) : List Str → Str
  | [] => Str.empty
  | [x] => x
  | x :: r => x ++ y ++ jn y r
theorem menu_ok : ∀ i : Nat, i < 17 → RowOk (menu.getD i (S' "")) := by
  have h : ∀ i : Nat, i < 17 → ((PySem.Str.join (S' " ") ((menuP.getD i (S' "", [])).1 :: (menuP.getD i (S' "", [])).2) == menu.getD i (S' "")) && (((menuP.getD i (S' "", [])).1 :: (menuP.getD i (S' "", [])).2).all fun q => !(cl q).contains 32) && decide ((menu.getD i (S' "")).length ≤ 60) && PyData.strOk (menu.getD i (S' "")) && !(cl (menu.getD i (S' ""))).contains 10 && (((menuP.getD i (S' "", [])).1 == S' "keeper") == C2 (menu.getD i (S' "")))) = true := by
    decide +kernel
  intro i hi
  have q := h i hi
  simp only [Bool.and_eq_true] at q
  obtain ⟨⟨⟨⟨⟨q1, q2⟩, q3⟩, q4⟩, q5⟩, q6⟩ := q
  refine row_parts (p := (menuP.getD i (S' "", [])).1) (ps := (menuP.getD i (S' "", [])).2) ?_ ?_ (of_decide_eq_true q3) q4 ?_ (by simpa using q6)
  · have e : Txt.join (S' " ") ((menuP.getD i (S' "", [])).1 :: (menuP.getD i (S' "", [])).2) = PySem.Str.join (S' " ") ((menuP.getD i (S' "", [])).1 :: (menuP.getD i (S' "", [])).2) := by
      unfold Txt.join
      rw [PySem.StrLaws.glued_eq_join]
    rw [e]
    exact of_decide_eq_true (by simpa using q1)
  · intro q hq
    have := List.all_eq_true.mp q2 q hq
    simpa using this
  · simpa using q5
end Lw
namespace Lk
open PySem PySem.Spec PyProof.Rows L2
theorem tjoin_eq (a : Str) (xs : List Str) : Txt.join a xs = Str.join a xs := by
  unfold Txt.join
  rw [PySem.StrLaws.glued_eq_join]
theorem tjoin_len (a : Str) (xs : List Str) : (Txt.join a xs).length ≤ (xs.map (·.length)).sum + xs.length * a.length := by
  rw [tjoin_eq]
  exact PySem.StrLaws.join_length_le a xs
theorem ts_len {i : Int} (h0 : 0 ≤ i) (h : i < 10 ^ 12) : (Str.ofString (toString i)).length ≤ 12 := toString_length_le h0 (by decide) h
theorem strOk_cat (a b : Str) : PyData.strOk (a ++ b) = (PyData.strOk a && PyData.strOk b) := by
  show (a.cps ++ b.cps).all (· < 0x110000) = _
  rw [Array.all_append]
  rfl
theorem push_str {a : List Str} {x : Str} (h : a.length < 100000) : pushR (a.map D.str) (.str x) = .ok ((a ++ [x]).map D.str) := by
  rw [pushR_ok (by rw [List.length_map]; exact h), List.map_append]
  rfl
theorem sum_le {n : Nat} : ∀ (xs : List Str), (∀ x ∈ xs, x.length ≤ n) → (xs.map (·.length)).sum ≤ n * xs.length
  | [], _ => by simp
  | x :: xs, h => by
    have h1 := h x List.mem_cons_self
    have ih := sum_le xs fun y hy => h y (List.mem_cons_of_mem _ hy)
    simp only [List.map_cons, List.sum_cons, List.length_cons, Nat.mul_add, Nat.mul_one]
    omega
theorem loopC_at {S B T γ α : Type} {step : S → D → Res (Out S S T)} {c : α → D} {k : Out S B T → Res γ} {r : Res γ} : ∀ (xs : List α) (P : Nat → S → Prop) {s : S}, P 0 s →
    (∀ j (hj : j < xs.length) s, P j s → ∃ s', (step s (c xs[j]) = .ok (.nx s') ∨ step s (c xs[j]) = .ok (.ct s')) ∧ P (j + 1) s') → (∀ s, P xs.length s → k (.nx s) = r) → (loopR step (xs.map c) s >>= k) = r
  | [], P, s, h0, _, hk => hk s h0
  | x :: xs, P, s, h0, h, hk => by
    obtain ⟨s1, e1, h1⟩ := h 0 (Nat.zero_lt_succ _) s h0
    have ih := loopC_at (step := step) (c := c) (k := k) (r := r) xs (fun j => P (j + 1)) h1 (fun j hj s q => h (j + 1) (Nat.succ_lt_succ hj) s q) hk
    rcases e1 with e1 | e1
    · have e1' : step s (c x) = .ok (.nx s1) := e1
      simp only [List.map_cons, loopR, e1']
      exact ih
    · have e1' : step s (c x) = .ok (.ct s1) := e1
      simp only [List.map_cons, loopR, e1']
      exact ih
end Lk
namespace Lw
open PySem Lk
theorem cl_cat (a b : Str) : cl (a ++ b) = cl a ++ cl b := by
  show (a.cps ++ b.cps).toList = _
  simp [cl]
def abc : Str := Str.ofString "abcdefghijklmnopqrstuvwxyz"
theorem abc_len : abc.cps.toList.length = 26 := by decide +kernel
theorem abc_size : abc.length ≤ 100000 := by decide +kernel
def goodN (w : Str) : Prop := w.length ≤ 12 ∧ ∀ x ∈ cl w, x ∈ cl abc
theorem abc_f : ∀ x ∈ cl abc, x ≠ 32 ∧ x ≠ 10 ∧ x < 0x110000 := by decide +kernel
theorem mul_nn {a b : Int} (ha : 0 ≤ a ∧ a < 10 ^ 40) (hb : 0 ≤ b ∧ b < 10 ^ 40) : D.mul (.int a) (.int b) = .ok (.int (a * b)) := by
  have h : (10 : Int) ^ 40 < 2 ^ 250 := by decide
  exact mul_small (by omega) (by omega)
theorem name_eq (c : Int) (hc : 0 ≤ c ∧ c < 10 ^ 20) : ∃ w, goodN w ∧ m__law_name (.int c) = .ok (.str w) := by
  obtain ⟨n, en, hn⟩ := emod_nat (c := c) (m := 12) (by decide)
  have en' : (1 : Int) + c % 12 = ((1 + n : Nat) : Int) := by
    have : c % 12 = (n : Int) := en
    omega
  simp -implicitDefEqProofs only [m__law_name, bind_ok, mod_int (show (0 : Int) < 12 by decide), Lk.add_int, en', range1_nat (show 1 + n ≤ 100000 by omega)]
  rw [fin_bind]
  refine loopP_range (fun z => ∃ w, goodN w ∧ z = .ok (D.str w)) (fun j s => ∃ (sd : Int) (w : Str), s = (.int sd, .str w) ∧ (0 ≤ sd ∧ sd < 10 ^ 20) ∧ w.length = j ∧ ∀ x ∈ cl w, x ∈ cl abc) ⟨c, _, rfl, hc, rfl, by decide +kernel⟩ ?_ ?_
  · rintro j hj _ ⟨sd, w, rfl, hs, hw, ho⟩
    have h40 : (10 : Int) ^ 20 + 1 < 10 ^ 40 := by decide
    have km : D.mul (.int (sd + 1)) (.int 48271) = .ok (.int ((sd + 1) * 48271)) := mul_nn (by omega) (by decide)
    obtain ⟨i, ei, hi⟩ := emod_nat (c := (sd + 1) * 48271 % 2147483647) (m := 26) (by decide)
    have ei' : (sd + 1) * 48271 % 2147483647 % 26 = (i : Int) := ei
    have hi' : i < abc.cps.toList.length := by rw [abc_len]; exact hi
    have it : D.item (.str (Str.ofString "abcdefghijklmnopqrstuvwxyz")) (.int (i : Int)) = _ := item_str (s := abc) hi' abc_size
    simp -implicitDefEqProofs only [bind_ok, Lk.add_int, km, mod_int (show (0 : Int) < 2147483647 by decide), mod_int (show (0 : Int) < 26 by decide), ei', it, add_str (show w.length + (⟨#[abc.cps.toList[i]]⟩ : Str).length ≤ 100000 by rw [one_len]; omega)]
    refine ⟨_, rfl, _, _, rfl, ?_, by rw [strcat_len, hw, one_len], fun x hx => ?_⟩
    · have : (2147483647 : Int) < 10 ^ 20 := by decide
      omega
    · rw [cl_cat] at hx
      rcases List.mem_append.mp hx with q | q
      · exact ho x q
      · have e : x = abc.cps.toList[i] := by simpa [cl] using q
        rw [e]
        exact List.getElem_mem _
  · rintro _ ⟨sd, w, rfl, hs, hw, ho⟩
    exact ⟨w, ⟨by omega, ho⟩, by simp -implicitDefEqProofs only [then_nx, bind_ok, fin_rt]⟩
theorem ext_cl {a b : Str} (h : cl a = cl b) : a = b := by
  cases a with
  | mk a => cases b with
    | mk b =>
      congr 1
      exact Array.toList_inj.mp h
theorem strOk_of {x : Str} (h : ∀ c ∈ cl x, c < 0x110000) : PyData.strOk x = true := by
  show x.cps.all (· < 0x110000) = true
  rw [← Array.all_toList, List.all_eq_true]
  intro c hc
  exact decide_eq_true (h c hc)
theorem empty_cat (a : Str) : Str.empty ++ a = a := ext_cl (by rw [cl_cat]; rfl)
open PySem PySem.Spec PyProof.Rows L2 in
theorem cut7 (x : Str) : cl (L2.cutS x none (some 7)) = (cl x).take 7 := by
  have e : x.length = x.cps.toList.length := by simp [Str.length]
  show ((x.cps.toList.drop (HT.sIx x.length 0 none)).take (HT.sIx x.length x.length (some ((7 : Nat) : Int)) - HT.sIx x.length 0 none)).toArray.toList = _
  rw [HT.sIx_nat, HT.sIx_none, List.drop_zero, Nat.sub_zero, e]
  show x.cps.toList.take (min 7 x.cps.toList.length) = x.cps.toList.take 7
  rw [List.take_eq_take_iff]
  omega
theorem kp : cl (S' "keeper ") = cl (S' "keeper") ++ [32] ∧ (cl (S' "keeper")).length = 6 ∧ 32 ∉ cl (S' "keeper") := by decide +kernel
theorem take7 {W K T : List Nat} (hW : 32 ∉ W) (hK : 32 ∉ K) (hl : K.length = 6) : ((W ++ 32 :: T).take 7 = K ++ [32]) ↔ W = K := by
  constructor
  · intro e
    have hi : W.length ≤ 6 := by
      by_cases q : W.length ≤ 6
      · exact q
      · have m : 32 ∈ (W ++ 32 :: T).take 7 := by rw [e]; simp
        rw [List.take_append_of_le_length (by omega)] at m
        exact (hW (List.mem_of_mem_take m)).elim
    have i1 : ((W ++ 32 :: T).take 7)[W.length]? = some 32 := by
      rw [List.getElem?_take_of_lt (by omega), List.getElem?_append_right (Nat.le_refl _)]
      simp
    rw [e] at i1
    have h6 : W.length = 6 := by
      by_cases q : W.length < 6
      · rw [List.getElem?_append_left (by omega)] at i1
        exact (hK (List.mem_of_getElem? i1)).elim
      · omega
    have e2 := congrArg (List.take 6) e
    rw [List.take_take, List.take_append_of_le_length (by omega), List.take_append_of_le_length (by omega)] at e2
    simp only [Nat.min_def] at e2
    rw [if_pos (by omega), List.take_of_length_le (by omega), List.take_of_length_le (by omega)] at e2
    exact e2
  · intro e
    subst e
    rw [List.take_append, hl, List.take_of_length_le (by omega)]
    simp
theorem row_f {w : Str} {n : Nat} (hw : goodN w) (hn : n < 1000000000000) : RowOk (Str.empty ++ w ++ S' " " ++ Str.ofString (toString (n : Int))) := by
  obtain ⟨t, et⟩ : ∃ t, t = Str.ofString (toString (n : Int)) := ⟨_, rfl⟩
  have ht : ∀ c ∈ cl t, 48 ≤ c ∧ c ≤ 57 := fun c hc => by rw [et] at hc; exact dig_range hc
  have hl : t.length ≤ 12 := by rw [et]; exact ts_len (by omega) (by omega)
  rw [← et, empty_cat]
  have ex : cl (w ++ S' " " ++ t) = cl w ++ 32 :: cl t := by rw [cl_cat, cl_cat, sp_cl, List.append_assoc]; rfl
  have w32 : 32 ∉ cl w := fun h => (abc_f 32 (hw.2 32 h)).1 rfl
  have t32 : 32 ∉ cl t := fun h => by have := ht 32 h; omega
  refine row_parts (p := w) (ps := [t]) ?_ ?_ ?_ ?_ ?_ ?_
  · rw [tjoin_eq]
    rfl
  · intro q hq
    rcases List.mem_cons.mp hq with rfl | hq
    · exact w32
    · rw [List.mem_singleton.mp hq]; exact t32
  · rw [strcat_len, strcat_len]
    have := hw.1
    have : (S' " ").length = 1 := by decide +kernel
    omega
  · refine strOk_of fun c hc => ?_
    rw [ex] at hc
    rcases List.mem_append.mp hc with q | q
    · exact (abc_f c (hw.2 c q)).2.2
    · rcases List.mem_cons.mp q with rfl | q
      · decide
      · have := ht c q; omega
  · rw [ex]
    intro hc
    rcases List.mem_append.mp hc with q | q
    · exact (abc_f 10 (hw.2 10 q)).2.1 rfl
    · rcases List.mem_cons.mp q with q | q
      · cases q
      · have := ht 10 q; omega
  · have n1 : (w ++ S' " " ++ t == S' "keeper") = false := by
      rw [beq_eq_false_iff_ne]
      intro e
      have m : 32 ∈ cl (S' "keeper") := by rw [← e, ex]; simp
      exact kp.2.2 m
    have iff : (cl w ++ 32 :: cl t).take 7 = cl (S' "keeper") ++ [32] ↔ cl w = cl (S' "keeper") := take7 w32 kp.2.2 kp.2.1
    unfold C2
    rw [n1, Bool.false_or]
    by_cases q : w = S' "keeper"
    · have e : L2.cutS (w ++ S' " " ++ t) none (some 7) = S' "keeper " := ext_cl (by rw [cut7, ex, kp.1]; exact iff.mpr (by rw [q]))
      rw [e, beq_self_eq_true, q, beq_self_eq_true]
    · have e : (L2.cutS (w ++ S' " " ++ t) none (some 7) == S' "keeper ") = false := by
        rw [beq_eq_false_iff_ne]
        intro e
        have e2 := congrArg cl e
        rw [cut7, ex, kp.1] at e2
        exact q (ext_cl (iff.mp e2))
      rw [e]
      exact beq_eq_false_iff_ne.mpr q
end Lw
namespace Lw
open PySem Lk
theorem fd40 (a : Int) : D.fdiv (.int a) (.int 40) = .ok (.int (a / 40)) := fdiv_small (by decide) (by decide)
theorem fd600 (a : Int) : D.fdiv (.int a) (.int 600) = .ok (.int (a / 600)) := fdiv_small (by decide) (by decide)
theorem fmt_str {a : Str} (h : a.length ≤ 30000) : D.fmt (.str a) = .ok (.str a) := if_pos h
theorem fmt_int {n : Nat} (h : n < 1000000000000) : D.fmt (.int (n : Int)) = .ok (.str (Str.ofString (toString (n : Int)))) := if_pos (by
  have : (n : Int).natAbs < 2 ^ 100 := by omega
  exact Nat.lt_trans (log2_small this (by decide)) (by decide))
theorem add_lst {a b : List D} (h : a.length + b.length ≤ 100000) : D.add (.lst a) (.lst b) = .ok (.lst (a ++ b)) := if_pos h
theorem menu_add : D.add (.lst [.str (S' ""), .str (S' "keeper"), .str (S' "keeper 5"), .str (S' "keeper  5"), .str (S' "keeper "), .str (S' "keepers"), .str (S' " keeper"), .str (S' "Keeper"), .str (S' "keeper\t5"), .str (S' "keepe")])
    (.lst [.str (S' "a keeper"), .str (S' ""), .str (S' "work"), .str (S' "keeper,"), .str (S' "keeperkeeper 1"), .str (S' " "), .str (S' "  ")]) = .ok (.lst (menu.map D.str)) := (add_lst (by simp)).trans rfl
theorem menu_len : menu.length = 17 := rfl
theorem sized_10 {xs : List D} (h : xs.length ≤ 20) : Res.sized xs = .ok xs := if_pos (by omega)
theorem row_eq (c : Int) : ∃ x, RowOk x ∧ m__law_row (.int c) = .ok (.str x) := by
  obtain ⟨i, ei, hi⟩ := emod_nat (c := c) (m := 40) (by decide)
  have ei' : c % 40 = (i : Int) := ei
  have s1 : Res.sized [.str (S' ""), .str (S' "keeper"), .str (S' "keeper 5"), .str (S' "keeper  5"), .str (S' "keeper "), .str (S' "keepers"), .str (S' " keeper"), .str (S' "Keeper"), .str (S' "keeper\t5"), .str (S' "keepe")] = _ := sized_10 (by simp)
  simp -implicitDefEqProofs only [m__law_row, bind_ok, s1, sized_7, menu_add, mod_int (show (0 : Int) < 40 by decide), ei', Lk.lt_int', toB_bl]
  by_cases q : i < 17
  · have it : D.item (.lst (menu.map D.str)) (.int (i : Int)) = .ok (.str (menu.getD i (S' ""))) := by
      rw [item_lst (by rw [List.length_map, menu_len]; exact q), List.getElem_map, List.getD_eq_getElem?_getD, List.getElem?_eq_getElem (by rw [menu_len]; exact q)]
      rfl
    have d : decide ((i : Int) < 17) = true := decide_eq_true (by omega)
    exact ⟨_, menu_ok i q, by simp -implicitDefEqProofs only [d, if_true, it, bind_ok, up_ok, oup_rt, fin_rt]⟩
  · have d : decide ((i : Int) < 17) = false := decide_eq_false (by omega)
    obtain ⟨w, hw, ew⟩ := name_eq (c / 40 % 2147483629) ⟨by omega, Int.lt_trans (Int.emod_lt_of_pos _ (by decide)) (by decide)⟩
    obtain ⟨n, en, hn⟩ := emod_nat (c := c / 40) (m := 1000000000000) (by decide)
    have en' : c / 40 % 1000000000000 = (n : Int) := en
    have tl : (Str.ofString (toString (n : Int))).length ≤ 12 := ts_len (by omega) (by omega)
    have spl : (Str.ofString " ").length ≤ 30000 := by decide +kernel
    have hw1 := hw.1
    refine ⟨_, row_f hw hn, ?_⟩
    simp -implicitDefEqProofs only [d, Bool.false_eq_true, if_false, bind_ok, fd40, mod_int (show (0 : Int) < 1000000000000 by decide), en', mod_int (show (0 : Int) < 2147483629 by decide), F1_eq, ew, fmt_str (show w.length ≤ 30000 by omega), txtS_ok (show w.length ≤ 30000 by omega), txtS_ok spl, fmt_int hn, txtS_ok (show (Str.ofString (toString (n : Int))).length ≤ 30000 by omega)]
    rfl
def stepK (s : List Str × Str) (x : Str) : List Str × Str := if (x == S' "") = true then s else if (!s.1.isEmpty || C2 x) = true then (s.1 ++ [x], s.2) else (s.1, s.2 ++ x ++ S' "\n")
def Inv (j : Nat) (s : List Str × Str) : Prop := s.1.length ≤ j ∧ s.2.length ≤ 61 * j ∧ ∀ x ∈ s.1, PyData.strOk x = true
theorem nl_len : (S' "\n").length = 1 := by decide +kernel
theorem inv_step {j : Nat} {s : List Str × Str} {x : Str} (h : Inv j s) (r : RowOk x) : Inv (j + 1) (stepK s x) := by
  obtain ⟨h1, h2, h3⟩ := h
  have := r.len
  unfold stepK
  split
  · exact ⟨by omega, by omega, h3⟩
  · split
    · refine ⟨by simp; omega, by simp only; omega, fun y hy => ?_⟩
      rcases List.mem_append.mp hy with q | q
      · exact h3 y q
      · rw [List.mem_singleton.mp q]; exact r.ok
    · exact ⟨by simp only; omega, by simp only; rw [strcat_len, strcat_len, nl_len]; omega, h3⟩
theorem inv_fold : ∀ (xs : List Str) (j : Nat) (s : List Str × Str), (∀ x ∈ xs, RowOk x) → Inv j s → Inv (j + xs.length) (xs.foldl stepK s)
  | [], j, s, _, h => h
  | x :: xs, j, s, hx, h => by
    have := inv_fold xs (j + 1) (stepK s x) (fun y hy => hx y (List.mem_cons_of_mem _ hy)) (inv_step h (hx x List.mem_cons_self))
    rw [List.length_cons, show j + (xs.length + 1) = j + 1 + xs.length by omega]
    exact this
def res (xs : List Str) : List Str × Str := xs.foldl stepK ([], S' "")
theorem inv0 : Inv 0 ([], S' "") := ⟨by simp, by decide +kernel, by simp⟩
theorem res_inv {xs : List Str} (h : ∀ x ∈ xs, RowOk x) : Inv xs.length (res xs) := by
  have := inv_fold xs 0 _ h inv0
  rwa [Nat.zero_add] at this
theorem res_take {xs : List Str} {j : Nat} (hj : j < xs.length) : res (xs.take (j + 1)) = stepK (res (xs.take j)) xs[j] := by
  unfold res
  rw [← List.take_append_getElem hj, List.foldl_append]
  rfl
theorem inv_take {xs : List Str} (h : ∀ x ∈ xs, RowOk x) {j : Nat} (hj : j ≤ xs.length) : Inv j (res (xs.take j)) := by
  have := res_inv (xs := xs.take j) fun x hx => h x (List.mem_of_mem_take hx)
  rwa [List.length_take, Nat.min_eq_left hj] at this
theorem truth_strs (a : List Str) : D.truth (.lst (a.map D.str)) = .ok (!a.isEmpty) := by
  cases a <;> rfl
theorem parted_eq {t : Str} {xs : List Str} (hs : Txt.split t (S' "\n") = xs) (ht : t.length + 2 ≤ 100000) (h : ∀ x ∈ xs, RowOk x) (hl : xs.length ≤ 100) : m_parted (.str t) = .ok (.tup [.str (res xs).2, .lst ((res xs).1.map D.str)]) := by
  have sp : D.split (.str t) (.str (S' "\n")) = .ok (xs.map D.str) := by rw [split_ok (by rw [nl_len]; rfl) ht, hs]
  simp -implicitDefEqProofs only [m_parted, bind_ok, sized_0, txt_str, sp, seq_lst]
  rw [fin_bind]
  refine loop_keep_at (c := D.str) (xs := xs) (fun j s => s = ((res (xs.take j)).1.map D.str, D.str (res (xs.take j)).2)) rfl ?_ ?_
  · rintro j hj _ rfl
    obtain ⟨i1, i2, i3⟩ := inv_take h (Nat.le_of_lt hj)
    have r := h xs[j] (List.getElem_mem hj)
    have rl := r.len
    obtain ⟨p, ps, ep, ec⟩ := r.hd
    have sx : D.split (.str xs[j]) (.str (S' " ")) = .ok ((p :: ps).map D.str) := by rw [split_ok (by decide +kernel) (by omega), ep]
    have e0 : D.item (.lst ((p :: ps).map D.str)) (.int 0) = .ok (.str p) := (item_lst (xs := (p :: ps).map D.str) (k := 0) (by simp)).trans rfl
    rw [res_take hj]
    generalize res (xs.take j) = s at i1 i2 i3
    simp -implicitDefEqProofs only [bind_ok, Lk.ne_str, toB_bl, truth_strs, txt_str, sx, e0, Lk.eq_str, ec, ite_or]
    unfold stepK
    by_cases z : (xs[j] == S' "") = true
    · have z' : (xs[j] == Str.ofString "") = true := z
      simp -implicitDefEqProofs only [z', Bool.not_true, Bool.false_eq_true, if_false, if_true]
      exact ⟨_, rfl, rfl⟩
    · have z' : (xs[j] == Str.ofString "") = false := by simpa using z
      have z2 : (xs[j] == S' "") = false := z'
      by_cases g : (!s.1.isEmpty || C2 xs[j]) = true
      · simp -implicitDefEqProofs only [z', z2, Bool.not_false, Bool.false_eq_true, if_false, if_true, g, push_str (show s.1.length < 100000 by omega), bind_ok]
        exact ⟨_, rfl, rfl⟩
      · have g' : (!s.1.isEmpty || C2 xs[j]) = false := by simpa using g
        simp -implicitDefEqProofs only [z', z2, Bool.not_false, Bool.false_eq_true, if_false, if_true, g', add_str (show s.2.length + xs[j].length ≤ 100000 by omega), bind_ok, add_str (show (s.2 ++ xs[j]).length + (Str.ofString "\n").length ≤ 100000 by rw [strcat_len, show (Str.ofString "\n").length = 1 from nl_len]; omega)]
        exact ⟨_, rfl, rfl⟩
  · rintro _ rfl
    rw [List.take_of_length_le (Nat.le_refl _)]
    simp -implicitDefEqProofs only [then_nx, bind_ok, sized_2, fin_rt]
theorem res_snoc (xs : List Str) : res (xs ++ [S' ""]) = res xs := by
  unfold res
  rw [List.foldl_append]
  rfl
theorem row_nil : RowOk (S' "") := menu_ok 0 (by decide)
theorem fit_strs {xs : List Str} (h : ∀ x ∈ xs, PyData.strOk x = true) : D.fit 20 (.lst (xs.map D.str)) = true := fit_lst (n := 19) fun x hx => h x hx
@[simp] theorem isStr_str (z : Str) : D.isT "str" (.str z) = .ok (.bl true) := rfl
/-- the rest of the law, behind the text -/
theorem sum_rows {xs : List Str} (h : ∀ x ∈ xs, RowOk x) : (xs.map (·.length)).sum ≤ 60 * xs.length := sum_le (n := 60) xs fun x hx => (h x hx).len
theorem join_rows {xs : List Str} (h : ∀ x ∈ xs, RowOk x) (hl : xs.length ≤ 70) : D.join (.str (S' "\n")) (.lst (xs.map D.str)) = .ok (.str (Txt.join (S' "\n") xs)) := by
  have := sum_rows h
  exact join_ok (by rw [nl_len]; omega)
theorem join_snoc : ∀ (xs : List Str), xs ≠ [] → PySem.Str.join (S' "\n") (xs ++ [S' ""]) = PySem.Str.join (S' "\n") xs ++ S' "\n"
  | [], h => (h rfl).elim
  | [x], _ => by
    show x ++ S' "\n" ++ S' "" = x ++ S' "\n"
    exact ext_cl (by rw [cl_cat]; show cl (x ++ S' "\n") ++ cl (S' "") = _; rw [show cl (S' "") = [] from by decide +kernel, List.append_nil])
  | x :: y :: r, _ => by
    have ih := join_snoc (y :: r) (by simp)
    show x ++ S' "\n" ++ PySem.Str.join (S' "\n") (y :: r ++ [S' ""]) = x ++ S' "\n" ++ PySem.Str.join (S' "\n") (y :: r) ++ S' "\n"
    rw [ih]
    exact ext_cl (by simp only [cl_cat, List.append_assoc])
theorem split_nl {xs : List Str} (hne : xs ≠ []) (h : ∀ x ∈ xs, RowOk x) : Txt.split (Txt.join (S' "\n") xs) (S' "\n") = xs := sp_split nl_cl nl_k hne fun p hp => (h p hp).nl
/-- each text of the law's is split into the rows, but for empty ones -/
theorem text_ok {rows : List Str} (h : ∀ x ∈ rows, RowOk x) (hl : rows.length ≤ 63) (b : Bool) (hb : b = true → rows ≠ []) : m_parted (.str (if b = true then Txt.join (S' "\n") rows ++ S' "\n" else Txt.join (S' "\n") rows)) = .ok (.tup [.str (res rows).2, .lst ((res rows).1.map D.str)]) := by
  cases b
  · by_cases q : rows = []
    · subst q
      have e : Txt.join (S' "\n") [] = Txt.join (S' "\n") [S' ""] := by rw [tjoin_eq, tjoin_eq]; decide +kernel
      have p := parted_eq (split_nl (xs := [S' ""]) (by simp) (by intro x hx; rw [List.mem_singleton.mp hx]; exact row_nil)) (by decide +kernel) (by intro x hx; rw [List.mem_singleton.mp hx]; exact row_nil) (by decide)
      rw [← e] at p
      exact p
    · have l := tjoin_len (S' "\n") rows
      have s := sum_rows h
      rw [nl_len] at l
      exact parted_eq (t := Txt.join (S' "\n") rows) (split_nl q h) (by omega) h (by omega)
  · have q := hb rfl
    have e : Txt.join (S' "\n") rows ++ S' "\n" = Txt.join (S' "\n") (rows ++ [S' ""]) := by rw [tjoin_eq, tjoin_eq, join_snoc rows q]
    have h2 : ∀ x ∈ rows ++ [S' ""], RowOk x := by
      intro x hx
      rcases List.mem_append.mp hx with z | z
      · exact h x z
      · rw [List.mem_singleton.mp z]; exact row_nil
    have l := tjoin_len (S' "\n") (rows ++ [S' ""])
    have s := sum_rows h2
    rw [nl_len] at l
    have le : (rows ++ [S' ""]).length = rows.length + 1 := by simp
    have p := parted_eq (split_nl (xs := rows ++ [S' ""]) (by simp) h2) (by omega) h2 (by omega)
    rw [res_snoc, ← e] at p
    exact p
theorem law_true (ns : List Int) (h : ns.length ≤ 63) : F1 m_law [.lst (ns.map D.int)] = .ok (.bl true) := by
  obtain ⟨f, hf⟩ : ∃ f : Int → Str, ∀ c, RowOk (f c) ∧ m__law_row (.int c) = .ok (.str (f c)) := ⟨fun c => Classical.choose (row_eq c), fun c => Classical.choose_spec (row_eq c)⟩
  have hf2 := fun c => (hf c).2
  simp -implicitDefEqProofs only [F1_eq, m_law, bind_ok, seq_lst]
  rw [lcSize_ok (by rw [List.length_map]; omega), bind_ok, compR_map D.int (fun c => D.str (f c)) (xs := ns) (fun c _ => by
    simp -implicitDefEqProofs only [lcF_yes, bind_ok, F1_eq, hf2])]
  have em : ns.map (fun c => D.str (f c)) = (ns.map f).map D.str := by rw [List.map_map]; rfl
  have hl : (ns.map f).length = ns.length := List.length_map _
  have ho : ∀ x ∈ ns.map f, RowOk x := by
    intro x hx
    obtain ⟨c, _, rfl⟩ := List.mem_map.mp hx
    exact (hf c).1
  rw [em, bind_ok]
  generalize ns.map f = rows at hl ho
  have hh : rows.length ≤ 63 := by omega
  simp -implicitDefEqProofs only [bind_ok, sized_0, seq_lst]
  rw [fin_bind]
  refine loopC_at (c := D.str) rows (fun j s => s = ((res (rows.take j)).1.map D.str, D.str (res (rows.take j)).2)) rfl ?_ ?_
  · rintro j hj _ rfl
    obtain ⟨i1, i2, i3⟩ := inv_take ho (Nat.le_of_lt hj)
    have r := ho rows[j] (List.getElem_mem hj)
    have rl := r.len
    have s7 : D.slice (.str rows[j]) none (some 7) = .ok (.str (L2.cutS rows[j] none (some 7))) := slice_str (by omega)
    rw [res_take hj]
    generalize res (rows.take j) = s at i1 i2 i3
    have sl : (s.1.map D.str).length = s.1.length := List.length_map _
    have em : decide ((0 : Int) < (s.1.length : Int)) = !s.1.isEmpty := by
      cases s.1 with
      | nil => rfl
      | cons a b => simp
    simp -implicitDefEqProofs only [bind_ok, Lk.eq_str, toB_bl, sl, Lk.gt_int', em, toI_int, s7, ite_or]
    unfold stepK
    by_cases z : (rows[j] == S' "") = true
    · have z' : (rows[j] == Str.ofString "") = true := z
      simp -implicitDefEqProofs only [z', if_true, up_ok]
      exact ⟨_, .inr rfl, rfl⟩
    · have z' : (rows[j] == Str.ofString "") = false := by simpa using z
      have z2 : (rows[j] == S' "") = false := z'
      have ec : (rows[j] == Str.ofString "keeper" || L2.cutS rows[j] none (some 7) == Str.ofString "keeper ") = C2 rows[j] := rfl
      by_cases g : (!s.1.isEmpty || C2 rows[j]) = true
      · simp -implicitDefEqProofs only [z', z2, Bool.false_eq_true, if_false, ec, g, if_true, push_str (show s.1.length < 100000 by omega), bind_ok]
        exact ⟨_, .inl rfl, rfl⟩
      · have g' : (!s.1.isEmpty || C2 rows[j]) = false := by simpa using g
        simp -implicitDefEqProofs only [z', z2, Bool.false_eq_true, if_false, ec, g', if_true, add_str (show s.2.length + rows[j].length ≤ 100000 by omega), bind_ok, add_str (show (s.2 ++ rows[j]).length + (Str.ofString "\n").length ≤ 100000 by rw [strcat_len, show (Str.ofString "\n").length = 1 from nl_len]; omega)]
        exact ⟨_, .inl rfl, rfl⟩
  · rintro _ rfl
    rw [List.take_of_length_le (Nat.le_refl _)]
    obtain ⟨i1, i2, i3⟩ := res_inv ho
    have jl := tjoin_len (S' "\n") rows
    have js := sum_rows ho
    rw [nl_len] at jl
    have jr := join_rows ho (by omega)
    have al : D.add (.str (Txt.join (S' "\n") rows)) (.str (S' "\n")) = .ok (.str (Txt.join (S' "\n") rows ++ S' "\n")) := add_str (by rw [nl_len]; omega)
    have it : (if decide ((0 : Int) < (ns.length : Int)) = true then (D.item (.lst (ns.map D.int)) (.int 0) >>= fun x49 => D.fdiv x49 (.int 600) >>= fun x51 => D.mod x51 (.int 2) >>= fun x53 => D.eq x53 (.int 1) >>= D.toB) else Res.ok false) = .ok (decide ((0 : Int) < (ns.length : Int)) && (ns.getD 0 0 / 600 % 2 == 1)) := by
      by_cases q : 0 < ns.length
      · have e := item_ints (xs := ns) (i := 0) q
        have e' : D.item (.lst (ns.map D.int)) (.int 0) = .ok (.int (ns.getD 0 0)) := e
        rw [decide_eq_true (by omega), if_pos rfl, e']
        simp -implicitDefEqProofs only [bind_ok, fd600, mod_int (show (0 : Int) < 2 by decide), Lk.eq_int, toB_bl, Bool.true_and]
      · rw [decide_eq_false (by omega)]
        rfl
    have tx := text_ok ho hh (decide ((0 : Int) < (ns.length : Int)) && (ns.getD 0 0 / 600 % 2 == 1)) (fun e => by
      rw [Bool.and_eq_true] at e
      have := of_decide_eq_true e.1
      intro z
      rw [z] at hl
      simp at hl
      omega)
    have s1 : ∀ a b : D, D.item (.tup [a, b]) (.int 0) = .ok a := fun _ _ => rfl
    have s2 : ∀ a b : D, D.item (.tup [a, b]) (.int 1) = .ok b := fun _ _ => rfl
    have l2 : ∀ a b : D, D.len [.tup [a, b]] = .ok (.int 2) := fun _ _ => rfl
    have iteS : ∀ (b : Bool) (x y : Str), (if b = true then D.str x else D.str y) = D.str (if b = true then x else y) := fun b x y => by cases b <;> rfl
    try simp -implicitDefEqProofs only [bind_assoc'] at it
    simp -implicitDefEqProofs only [then_nx, bind_ok, txt_str, jr, lenI, Lk.gt_int', toB_bl, bind_assoc']
    rw [it]
    simp -implicitDefEqProofs only [bind_ok, al, ite_nx, iteS, then_nx, F1_eq, tx, isTup_tup, truth_bl, Bool.not_true, Bool.false_eq_true, if_false, l2, Lk.ne_int, beq_self_eq_true, toB_bl, s1, s2, isStr_str, isList_lst, Lk.ne_str, seq_lst]
    rw [fin_bind]
    refine loop_keep (fun _ => True) trivial (fun s _ c _ => ⟨(), ?_, trivial⟩) (fun s _ => ?_)
    · simp -implicitDefEqProofs only [isStr_str, bind_ok, truth_bl, Bool.not_true, Bool.false_eq_true, if_false]
    · simp -implicitDefEqProofs only [then_nx, s2, bind_ok, eq_same (fit_strs i3), fin_rt]
end Lw
open PySem PySem.W PySem.Calls PyProof.Rows
set_option maxRecDepth 100000 in
set_option maxHeartbeats 0 in
theorem PySem.Challenge.cw_lockhouse_k81_two_parts_holds : PySem.Challenge.rw_lockhouse_k81_two_parts.Holds := by
  w_on; o_law
  refine HandSHeadRun.head_any (r := Lw.R0) (q := view Lw.R0.prog [5]) (H := Lw.hk) (ob := Lw.ob) (M := 640) (loose := Lw.names) (d := HandSHeadRun.topDef Lw.R0.prog 5) (kwd := []) Lw.ob_eq
    (by kernel_rfl) (fun s => by kernel_rfl) Lw.run (by kernel_rfl) (by kernel_rfl) (by kernel_rfl) (by rfl) (by first | assumption | decide +kernel) (by decide +kernel) ⟨rfl, rfl, rfl, rfl, rfl, by decide +kernel⟩ ?hw ?hc
  case hw => w_witness2
  case hc =>
    refine Lk.law_end (l := PySem.Challenge.rw_lockhouse_k81_two_parts) (n := 63) (k := 3) (F := Lk.F1 Lw.m_law) rfl (by decide) (by kernel_rfl) ⟨rfl, by decide, by decide⟩ Lw.law_true ?u
    intro w mg fa h Y G hn
    obtain ⟨K, KX, c⟩ := Y
    have en : (HandSHeadRun.topDef Lw.R0.prog 5).name = ("law" : PySem.Str) := by kernel_rfl
    rw [en] at hn
    exact ⟨K, Lw.caOf K, KX, Lw.facts KX G hn c⟩
