import PyProof.Rows.All
import Wide.All
import OpenK.AllK
import Wide.FinOn
import HandS.ForMost
import HandS.ForExc
import HandS.IsInst
import HandS.Wide
import HandS.Strs
import HandS.More
import HandS.TupAny
import HandS.TupLe
import HandS.TryOnly
import HandS.MakeKw
import KE.KTupSum
import HandS.RaiseMore
import HandS.FStr
import HandS.Text
import HandS.Defaults
import KE.KStateDown
import HandS.Head0
import HandS.Head1
import HandS.Head2
import HandS.HeadEnd
import HandS.HeadHook1
import HandS.HeadHook2
import HandS.ExcIs
import HandS.ClsMeth
import PySem.Challenge.RW_lockhouse_k73_no_entries_refused
import HandS.Deep
import KE.KxIndex
import HandS.Dict
import KE.GoesComp
import KE.GoesRaise
import KE.KIntText
set_option Elab.async false
set_option linter.all false
set_option maxRecDepth 100000
set_option maxHeartbeats 4000000
namespace Lk
open PySem PySem.Spec PyProof.Rows L2
/-! ### results -/
inductive Res (α : Type) where
  | ok (a : α)
  | exc (c : Nat)
  | bug
def Res.bind {α β : Type} : Res α → (α → Res β) → Res β
  | .ok a, f => f a
  | .exc c, _ => .exc c
  | .bug, _ => .bug
instance : Monad Res where
  pure := Res.ok
  bind := Res.bind
@[simp] theorem bind_ok {α β : Type} (a : α) (f : α → Res β) : (Res.ok a >>= f) = f a := by
  have h : ∀ x : Res β, x = x := fun _ => Eq.refl _
  exact h (f a)
@[simp] theorem bind_exc {α β : Type} (c : Nat) (f : α → Res β) : ((Res.exc c : Res α) >>= f) = .exc c := by
  have h : ∀ x : Res β, x = x := fun _ => Eq.refl _
  exact h (.exc c)
@[simp] theorem bind_bug {α β : Type} (f : α → Res β) : ((Res.bug : Res α) >>= f) = .bug := by
  have h : ∀ x : Res β, x = x := fun _ => Eq.refl _
  exact h .bug
@[simp] theorem pure_ok {α : Type} (a : α) : (pure a : Res α) = .ok a := rfl
/-! ### data -/
inductive D where
  | non
  | bl (b : Bool)
  | int (i : Int)
  | str (x : Str)
  | lst (xs : List D)
  | tup (xs : List D)
  | ins (c : Nat) (fs : List (Str × D))
  | dic (fs : List (Str × D))
  | any
mutual
inductive R (K : PySem.W.Frag) (ca : Nat → Addr) (G : Hp) : V → D → Prop
  | any {v : V} : R K ca G v .any
  | non : R K ca G .non .non
  | bl (b : Bool) : R K ca G (.bl b) (.bl b)
  | int (i : Int) : R K ca G (.int i) (.int i)
  | str (x : Str) : R K ca G (.str x) (.str x)
  | lst {a : Addr} {vs : List V} {ds : List D} : SqL K G a vs → RL K ca G vs ds → R K ca G (.ref a) (.lst ds)
  | tup {a : Addr} {vs : List V} {ds : List D} : SqT K G a vs → RL K ca G vs ds → R K ca G (.ref a) (.tup ds)
  | ins {a dx : Addr} {c : Nat} {fvs : List (Str × V)} {fs : List (Str × D)} : G a = some (.ins (ca c) dx fvs) → RF K ca G fvs fs → R K ca G (.ref a) (.ins c fs)
  | dic {a : Addr} {fvs : List (Str × V)} {fs : List (Str × D)} : G a = some (.dK (fvs.map fun p => (Sum.inr p.1, p.2))) → RF K ca G fvs fs → R K ca G (.ref a) (.dic fs)
inductive RL (K : PySem.W.Frag) (ca : Nat → Addr) (G : Hp) : List V → List D → Prop
  | nil : RL K ca G [] []
  | cons {v : V} {vs : List V} {d : D} {ds : List D} : R K ca G v d → RL K ca G vs ds → RL K ca G (v :: vs) (d :: ds)
inductive RF (K : PySem.W.Frag) (ca : Nat → Addr) (G : Hp) : List (Str × V) → List (Str × D) → Prop
  | nil : RF K ca G [] []
  | cons {n : Str} {v : V} {vs : List (Str × V)} {d : D} {ds : List (Str × D)} : R K ca G v d → RF K ca G vs ds → RF K ca G ((n, v) :: vs) ((n, d) :: ds)
end
theorem Same.sqL {K : PySem.W.Frag} {H H' : Hp} {a : Addr} {xs : List V} (e : Same H H') (h : SqL K H a xs) : SqL K H' a xs := Same.seq e h
theorem Same.sqT {K : PySem.W.Frag} {H H' : Hp} {a : Addr} {xs : List V} (e : Same H H') (h : SqT K H a xs) : SqT K H' a xs := by
  rcases h with (h | ⟨o, h⟩) | h
  · exact .inl (.inl (e _ _ h))
  · exact .inl (.inr ⟨o, e _ _ h⟩)
  · exact .inr h
theorem Same.rd {H H' : Hp} {a : Addr} {u : HO} (e : Same H H') (h : Rd H a u) : Rd H' a u := by
  rcases h with h | ⟨o, h⟩
  · exact .inl (e _ _ h)
  · exact .inr ⟨o, e _ _ h⟩
section
variable {K : PySem.W.Frag} {ca : Nat → Addr} {G G' H H' : Hp}
mutual
theorem R.mono (e : Same G G') : ∀ {d : D} {v : V}, R K ca G v d → R K ca G' v d
  | .any, _, h => .any
  | .non, _, h => by cases h; exact .non
  | .bl _, _, h => by cases h; exact .bl _
  | .int _, _, h => by cases h; exact .int _
  | .str _, _, h => by cases h; exact .str _
  | .lst ds, _, h => by cases h with | lst h1 h2 => exact .lst (Same.sqL e h1) (RL.mono e h2)
  | .tup ds, _, h => by cases h with | tup h1 h2 => exact .tup (Same.sqT e h1) (RL.mono e h2)
  | .ins c fs, _, h => by cases h with | ins h1 h2 => exact .ins (e _ _ h1) (RF.mono e h2)
  | .dic fs, _, h => by cases h with | dic h1 h2 => exact .dic (e _ _ h1) (RF.mono e h2)
theorem RL.mono (e : Same G G') : ∀ {ds : List D} {vs : List V}, RL K ca G vs ds → RL K ca G' vs ds
  | [], _, h => by cases h; exact .nil
  | d :: ds, _, h => by cases h with | cons h1 h2 => exact .cons (R.mono e h1) (RL.mono e h2)
theorem RF.mono (e : Same G G') : ∀ {fs : List (Str × D)} {vs : List (Str × V)}, RF K ca G vs fs → RF K ca G' vs fs
  | [], _, h => by cases h; exact .nil
  | (n, d) :: ds, _, h => by cases h with | cons h1 h2 => exact .cons (R.mono e h1) (RF.mono e h2)
end
theorem RL.length : ∀ {ds : List D} {vs : List V}, RL K ca G vs ds → vs.length = ds.length
  | [], _, h => by cases h; rfl
  | d :: ds, _, h => by cases h with | cons h1 h2 => simp [RL.length h2]
theorem RL.get : ∀ {ds : List D} {vs : List V} {i : Nat} {d : D}, RL K ca G vs ds → ds[i]? = some d → ∃ v, vs[i]? = some v ∧ R K ca G v d
  | [], _, _, _, _, e => by simp at e
  | d0 :: ds, _, 0, d, h, e => by
    cases h with
    | cons h1 h2 =>
      have e' : d0 = d := by simpa using e
      subst e'
      exact ⟨_, rfl, h1⟩
  | d0 :: ds, _, i + 1, d, h, e => by
    cases h with
    | cons h1 h2 =>
      obtain ⟨v, q1, q2⟩ := RL.get (i := i) h2 (by simpa using e)
      exact ⟨v, by simpa using q1, q2⟩
theorem RL.get' : ∀ {ds : List D} {vs : List V} {i : Nat} {v : V}, RL K ca G vs ds → vs[i]? = some v → ∃ d, ds[i]? = some d ∧ R K ca G v d
  | [], _, _, _, h, e => by cases h; simp at e
  | d0 :: ds, _, 0, v, h, e => by
    cases h with
    | cons h1 h2 =>
      have e' := Option.some.inj (by simpa using e)
      subst e'
      exact ⟨_, rfl, h1⟩
  | d0 :: ds, _, i + 1, v, h, e => by
    cases h with
    | cons h1 h2 =>
      obtain ⟨v, q1, q2⟩ := RL.get' (i := i) h2 (by simpa using e)
      exact ⟨v, by simpa using q1, q2⟩
theorem RL.append : ∀ {ds es : List D} {vs us : List V}, RL K ca G vs ds → RL K ca G us es → RL K ca G (vs ++ us) (ds ++ es)
  | [], _, _, _, h, q => by cases h; exact q
  | d :: ds, _, _, _, h, q => by cases h with | cons h1 h2 => exact .cons h1 (RL.append h2 q)
theorem RL.set {d : D} {v : V} (r : R K ca G v d) : ∀ {ds : List D} {vs : List V} (i : Nat), RL K ca G vs ds → RL K ca G (vs.set i v) (ds.set i d)
  | [], _, _, h => by cases h; exact .nil
  | d0 :: ds, _, 0, h => by cases h with | cons h1 h2 => exact .cons r h2
  | d0 :: ds, _, i + 1, h => by cases h with | cons h1 h2 => exact .cons h1 (RL.set r i h2)
theorem RL.take : ∀ {ds : List D} {vs : List V} (i : Nat), RL K ca G vs ds → RL K ca G (vs.take i) (ds.take i)
  | _, _, 0, h => .nil
  | [], _, i + 1, h => by cases h; exact .nil
  | d0 :: ds, _, i + 1, h => by cases h with | cons h1 h2 => exact .cons h1 (RL.take i h2)
theorem RL.drop : ∀ {ds : List D} {vs : List V} (i : Nat), RL K ca G vs ds → RL K ca G (vs.drop i) (ds.drop i)
  | _, _, 0, h => h
  | [], _, i + 1, h => by cases h; exact .nil
  | d0 :: ds, _, i + 1, h => by cases h with | cons h1 h2 => exact RL.drop i h2
theorem RL.reverse : ∀ {ds : List D} {vs : List V}, RL K ca G vs ds → RL K ca G vs.reverse ds.reverse
  | [], _, h => by cases h; exact .nil
  | d :: ds, _, h => by
    cases h with
    | cons h1 h2 =>
      rw [List.reverse_cons, List.reverse_cons]
      exact RL.append (RL.reverse h2) (.cons h1 .nil)
theorem RL.ints : ∀ {ns : List Int}, RL K ca G (ns.map V.int) (ns.map D.int)
  | [] => .nil
  | n :: ns => .cons (.int n) RL.ints
theorem RL.ints_inv : ∀ {ns : List Int} {vs : List V}, RL K ca G vs (ns.map D.int) → vs = ns.map V.int
  | [], _, h => by cases h; rfl
  | n :: ns, _, h => by cases h with | cons h1 h2 => cases h1; rw [RL.ints_inv h2]; rfl
end
/-! ### what is owned: O, told by its tree; the addresses that it holds -/
inductive O where
  | d (x : D)
  | ol (r : Option V) (xs : List D)
  | oL (xs : List O)
  | ot (xs : List O)
  | oi (c : Nat) (fs : List (Str × O))
  | od (fs : List (Str × D))
  | pin (v : V) (o : O)
  | raw (v : V)
/-- a set of addresses -/
abbrev AS := Addr → Prop
def none_ : AS := fun _ => False
mutual
inductive Ow (K : PySem.W.Frag) (ca : Nat → Addr) (G H : Hp) : V → O → AS → Prop
  | d {v : V} {x : D} {F : AS} : R K ca G v x → Ow K ca G H v (.d x) F
  | ol {p : Addr} {r : Option V} {vs : List V} {xs : List D} {F : AS} : H p = some (.lst vs) → RL K ca G vs xs → F p → (∀ w, r = some w → w = .ref p) → Ow K ca G H (.ref p) (.ol r xs) F
  | oL {p : Addr} {vs : List V} {xs : List O} {F F' : AS} : H p = some (.lst vs) → F p → OwL K ca G H vs xs F' → ¬ F' p → (∀ a, F' a → F a) → Ow K ca G H (.ref p) (.oL xs) F
  | ot {p : Addr} {vs : List V} {xs : List O} {F F' : AS} : H p = some (.tup vs) → F p → OwL K ca G H vs xs F' → ¬ F' p → (∀ a, F' a → F a) → Ow K ca G H (.ref p) (.ot xs) F
  | oi {p dx : Addr} {c : Nat} {fvs : List (Str × V)} {fs : List (Str × O)} {F F' : AS} : H p = some (.ins (ca c) dx fvs) → F p → OwF K ca G H fvs fs F' → ¬ F' p → (∀ a, F' a → F a) → Ow K ca G H (.ref p) (.oi c fs) F
  | od {p : Addr} {fvs : List (Str × V)} {fs : List (Str × D)} {F : AS} : H p = some (.dK (fvs.map fun p => (Sum.inr p.1, p.2))) → RF K ca G fvs fs → F p → Ow K ca G H (.ref p) (.od fs) F
  | pin {v : V} {o : O} {F : AS} : Ow K ca G H v o F → Ow K ca G H v (.pin v o) F
  | raw {v : V} {F : AS} : Ow K ca G H v (.raw v) F
inductive OwL (K : PySem.W.Frag) (ca : Nat → Addr) (G H : Hp) : List V → List O → AS → Prop
  | nil {F : AS} : OwL K ca G H [] [] F
  | cons {v : V} {vs : List V} {o : O} {os : List O} {F F1 F2 : AS} : Ow K ca G H v o F1 → OwL K ca G H vs os F2 → (∀ a, F1 a → F2 a → False) → (∀ a, F1 a → F a) → (∀ a, F2 a → F a) → OwL K ca G H (v :: vs) (o :: os) F
inductive OwF (K : PySem.W.Frag) (ca : Nat → Addr) (G H : Hp) : List (Str × V) → List (Str × O) → AS → Prop
  | nil {F : AS} : OwF K ca G H [] [] F
  | cons {n : Str} {v : V} {vs : List (Str × V)} {o : O} {os : List (Str × O)} {F F1 F2 : AS} : Ow K ca G H v o F1 → OwF K ca G H vs os F2 → (∀ a, F1 a → F2 a → False) → (∀ a, F1 a → F a) → (∀ a, F2 a → F a) → OwF K ca G H ((n, v) :: vs) ((n, o) :: os) F
end
section
variable {K : PySem.W.Frag} {ca : Nat → Addr} {G G' H H' : Hp}
mutual
theorem Ow.mono (e : Same G G') : ∀ {o : O} {v : V} {F : AS}, (∀ a u, F a → H a = some u → H' a = some u) → Ow K ca G H v o F → Ow K ca G' H' v o F
  | .d x, _, _, k, h => by cases h with | d h1 => exact .d (h1.mono e)
  | .ol r xs, _, _, k, h => by cases h with | ol h1 h2 h3 h4 => exact .ol (k _ _ h3 h1) (h2.mono e) h3 h4
  | .oL xs, _, _, k, h => by cases h with | oL h1 h2 h3 h4 h5 => exact .oL (k _ _ h2 h1) h2 (OwL.mono e (fun a u q => k a u (h5 a q)) h3) h4 h5
  | .ot xs, _, _, k, h => by cases h with | ot h1 h2 h3 h4 h5 => exact .ot (k _ _ h2 h1) h2 (OwL.mono e (fun a u q => k a u (h5 a q)) h3) h4 h5
  | .oi c fs, _, _, k, h => by cases h with | oi h1 h2 h3 h4 h5 => exact .oi (k _ _ h2 h1) h2 (OwF.mono e (fun a u q => k a u (h5 a q)) h3) h4 h5
  | .od fs, _, _, k, h => by cases h with | od h1 h2 h3 => exact .od (k _ _ h3 h1) (h2.mono e) h3
  | .pin w o, _, _, k, h => by cases h with | pin h1 => exact .pin (Ow.mono e k h1)
  | .raw w, _, _, k, h => by cases h; exact .raw
theorem OwL.mono (e : Same G G') : ∀ {os : List O} {vs : List V} {F : AS}, (∀ a u, F a → H a = some u → H' a = some u) → OwL K ca G H vs os F → OwL K ca G' H' vs os F
  | [], _, _, k, h => by cases h; exact .nil
  | o :: os, _, _, k, h => by cases h with | cons h1 h2 h3 h4 h5 => exact .cons (Ow.mono e (fun a u q => k a u (h4 a q)) h1) (OwL.mono e (fun a u q => k a u (h5 a q)) h2) h3 h4 h5
theorem OwF.mono (e : Same G G') : ∀ {fs : List (Str × O)} {vs : List (Str × V)} {F : AS}, (∀ a u, F a → H a = some u → H' a = some u) → OwF K ca G H vs fs F → OwF K ca G' H' vs fs F
  | [], _, _, k, h => by cases h; exact .nil
  | (n, o) :: os, _, _, k, h => by cases h with | cons h1 h2 h3 h4 h5 => exact .cons (Ow.mono e (fun a u q => k a u (h4 a q)) h1) (OwF.mono e (fun a u q => k a u (h5 a q)) h2) h3 h4 h5
end
theorem Ow.wide {F F' : AS} (k : ∀ a, F a → F' a) : ∀ {o : O} {v : V}, Ow K ca G H v o F → Ow K ca G H v o F'
  | .d _, _, h => by cases h with | d h1 => exact .d h1
  | .ol _ _, _, h => by cases h with | ol h1 h2 h3 h4 => exact .ol h1 h2 (k _ h3) h4
  | .oL _, _, h => by cases h with | oL h1 h2 h3 h4 h5 => exact .oL h1 (k _ h2) h3 h4 fun a q => k a (h5 a q)
  | .ot _, _, h => by cases h with | ot h1 h2 h3 h4 h5 => exact .ot h1 (k _ h2) h3 h4 fun a q => k a (h5 a q)
  | .oi _ _, _, h => by cases h with | oi h1 h2 h3 h4 h5 => exact .oi h1 (k _ h2) h3 h4 fun a q => k a (h5 a q)
  | .od _, _, h => by cases h with | od h1 h2 h3 => exact .od h1 h2 (k _ h3)
  | .pin _ _, _, h => by cases h with | pin h1 => exact .pin (Ow.wide k h1)
  | .raw _, _, h => by cases h; exact .raw
theorem OwL.wide {F F' : AS} (k : ∀ a, F a → F' a) {os : List O} {vs : List V} (h : OwL K ca G H vs os F) : OwL K ca G H vs os F' := by
  cases h with
  | nil => exact .nil
  | cons h1 h2 h3 h4 h5 => exact .cons h1 h2 h3 (fun a q => k a (h4 a q)) fun a q => k a (h5 a q)
theorem OwF.wide {F F' : AS} (k : ∀ a, F a → F' a) {os : List (Str × O)} {vs : List (Str × V)} (h : OwF K ca G H vs os F) : OwF K ca G H vs os F' := by
  cases h with
  | nil => exact .nil
  | cons h1 h2 h3 h4 h5 => exact .cons h1 h2 h3 (fun a q => k a (h4 a q)) fun a q => k a (h5 a q)
end
/-! ### owned things are shared: what is told of them then -/
mutual
def O.frz : O → D
  | .d x => x
  | .ol _ xs => .lst xs
  | .oL xs => .lst (O.frzL xs)
  | .ot xs => .tup (O.frzL xs)
  | .oi c fs => .ins c (O.frzF fs)
  | .od fs => .dic fs
  | .pin _ o => O.frz o
  | .raw _ => .any
def O.frzL : List O → List D
  | [] => []
  | o :: os => O.frz o :: O.frzL os
def O.frzF : List (Str × O) → List (Str × D)
  | [] => []
  | (n, o) :: os => (n, O.frz o) :: O.frzF os
end
open Classical in
noncomputable def pubG (F : AS) (G H : Hp) : Hp := fun a => if F a then H a else G a
theorem pubG_in {F : AS} {G H : Hp} {a : Addr} (h : F a) : pubG F G H a = H a := if_pos h
theorem pubG_out {F : AS} {G H : Hp} {a : Addr} (h : ¬ F a) : pubG F G H a = G a := if_neg h
section
variable {K : PySem.W.Frag} {ca : Nat → Addr} {G H : Hp}
theorem pubG_same {F : AS} (h : ∀ a, F a → G a = none) : Same G (pubG F G H) := fun a u z => by
  rw [pubG_out (fun q => by rw [h a q] at z; cases z)]; exact z
theorem pubG_wide {F F' : AS} (k : ∀ a, F a → F' a) (h : ∀ a, F' a → G a = none) : Same (pubG F G H) (pubG F' G H) := fun a u z => by
  by_cases q : F a
  · rw [pubG_in (k a q)]
    rw [pubG_in q] at z
    exact z
  · rw [pubG_out q] at z
    rw [pubG_out (fun q => by rw [h a q] at z; cases z)]
    exact z
mutual
theorem Ow.frz : ∀ {o : O} {v : V} {F : AS}, (∀ a, F a → G a = none) → Ow K ca G H v o F → R K ca (pubG F G H) v o.frz
  | .d x, _, _, k, h => by cases h with | d h1 => exact h1.mono (pubG_same k)
  | .ol r xs, _, _, k, h => by cases h with | ol h1 h2 h3 h4 => exact .lst (.inl (.inl (by rw [pubG_in h3]; exact h1))) (h2.mono (pubG_same k))
  | .oL xs, _, _, k, h => by cases h with | oL h1 h2 h3 h4 h5 => exact .lst (.inl (.inl (by rw [pubG_in h2]; exact h1))) ((OwL.frz (fun a q => k a (h5 a q)) h3).mono (pubG_wide h5 k))
  | .ot xs, _, _, k, h => by cases h with | ot h1 h2 h3 h4 h5 => exact .tup (.inl (.inl (by rw [pubG_in h2]; exact h1))) ((OwL.frz (fun a q => k a (h5 a q)) h3).mono (pubG_wide h5 k))
  | .oi c fs, _, _, k, h => by cases h with | oi h1 h2 h3 h4 h5 => exact .ins (by rw [pubG_in h2]; exact h1) ((OwF.frz (fun a q => k a (h5 a q)) h3).mono (pubG_wide h5 k))
  | .od fs, _, _, k, h => by cases h with | od h1 h2 h3 => exact .dic (by rw [pubG_in h3]; exact h1) (h2.mono (pubG_same k))
  | .pin w o, _, _, k, h => by
    cases h with
    | pin h1 =>
      have q := Ow.frz (o := o) k h1
      exact q
  | .raw w, _, _, k, h => .any
theorem OwL.frz : ∀ {os : List O} {vs : List V} {F : AS}, (∀ a, F a → G a = none) → OwL K ca G H vs os F → RL K ca (pubG F G H) vs (O.frzL os)
  | [], _, _, k, h => by cases h; exact .nil
  | o :: os, _, _, k, h => by cases h with | cons h1 h2 h3 h4 h5 => exact .cons ((Ow.frz (fun a q => k a (h4 a q)) h1).mono (pubG_wide h4 k)) ((OwL.frz (fun a q => k a (h5 a q)) h2).mono (pubG_wide h5 k))
theorem OwF.frz : ∀ {fs : List (Str × O)} {vs : List (Str × V)} {F : AS}, (∀ a, F a → G a = none) → OwF K ca G H vs fs F → RF K ca (pubG F G H) vs (O.frzF fs)
  | [], _, _, k, h => by cases h; exact .nil
  | (n, o) :: os, _, _, k, h => by cases h with | cons h1 h2 h3 h4 h5 => exact .cons ((Ow.frz (fun a q => k a (h4 a q)) h1).mono (pubG_wide h4 k)) ((OwF.frz (fun a q => k a (h5 a q)) h2).mono (pubG_wide h5 k))
end
end
/-! ### a frame's names -/
abbrev Env := List (Option O)
structure EnvOk (K : PySem.W.Frag) (ca : Nat → Addr) (G H : Hp) (σ : L2.St) (ρ : Env) (f : Nat → AS) : Prop where
  sub : Same G H
  slot : ∀ i o, ρ[i]? = some (some o) → ∃ v, σ[i]? = some (some v) ∧ Ow K ca G H v o (f i)
  sep : ∀ i j a, f i a → f j a → i = j
  out : ∀ i a, f i a → G a = none ∧ ∃ o, H a = some o
/-- the heap grows: nothing that stood is touched -/
structure Grow (G H G' H' : Hp) : Prop where
  g : Same G G'
  sub : Same G' H'
  h : Same H H'
  new : ∀ a o, G' a = some o → G a = some o ∨ H a = none
/-- .. with F, which may be touched -/
structure Evo (G H : Hp) (F : AS) (G' H' : Hp) (F' : AS) : Prop where
  g : Same G G'
  sub : Same G' H'
  h : ∀ a o, H a = some o → ¬ F a → H' a = some o
  new : ∀ a o, G' a = some o → G a = some o ∨ H a = none ∨ F a
  own : ∀ a, F' a → F a ∨ H a = none
abbrev All (f : Nat → AS) : AS := fun a => ∃ i, f i a
section
variable {K : PySem.W.Frag} {ca : Nat → Addr} {G H G1 H1 G2 H2 G' H' : Hp} {σ : L2.St} {ρ ρ' : Env} {f : Nat → AS}
theorem Grow.refl (s : Same G H) : Grow G H G H := ⟨Same.refl _, s, Same.refl _, fun a o h => .inl h⟩
theorem Grow.trans (a : Grow G H G1 H1) (b : Grow G1 H1 G2 H2) : Grow G H G2 H2 :=
  ⟨a.g.trans b.g, b.sub, a.h.trans b.h, fun x o h => by
    rcases b.new x o h with q | q
    · exact a.new x o q
    · exact .inr (a.h.free q)⟩
theorem Evo.of_grow {F : AS} (a : Grow G H G' H') : Evo G H F G' H' F :=
  ⟨a.g, a.sub, fun x o h _ => a.h x o h, fun x o h => (a.new x o h).elim .inl fun q => .inr (.inl q), fun _ h => .inl h⟩
theorem Evo.trans {F F1 F2 : AS} (a : Evo G H F G1 H1 F1) (b : Evo G1 H1 F1 G2 H2 F2) : Evo G H F G2 H2 F2 := by
  have back : ∀ x, H1 x = none → H x = none ∨ F x := fun x h => by
    cases q : H x with
    | none => exact .inl rfl
    | some o =>
      by_cases hf : F x
      · exact .inr hf
      · rw [a.h x o q hf] at h
        cases h
  refine ⟨a.g.trans b.g, b.sub, fun x o h n => b.h x o (a.h x o h n) fun k => ?_, fun x o h => ?_, fun x h => ?_⟩
  · rcases a.own x k with q | q
    · exact n q
    · rw [q] at h
      cases h
  · rcases b.new x o h with q | q | q
    · exact a.new x o q
    · rcases back x q with z | z
      · exact .inr (.inl z)
      · exact .inr (.inr z)
    · rcases a.own x q with z | z
      · exact .inr (.inr z)
      · exact .inr (.inl z)
  · rcases b.own x h with q | q
    · exact a.own x q
    · rcases back x q with z | z
      · exact .inr z
      · exact .inl z
theorem Evo.refl {F : AS} (s : Same G H) : Evo G H F G H F := .of_grow (.refl s)
theorem Evo.less {F F' F2 : AS} (a : Evo G H F G' H' F') (k : ∀ x, F2 x → F' x) : Evo G H F G' H' F2 := ⟨a.g, a.sub, a.h, a.new, fun x h => a.own x (k x h)⟩
theorem EnvOk.grow (E : EnvOk K ca G H σ ρ f) (g : Grow G H G' H') : EnvOk K ca G' H' σ ρ f := by
  refine ⟨g.sub, fun i o h => ?_, E.sep, fun i a h => ?_⟩
  · obtain ⟨v, q1, q2⟩ := E.slot i o h
    exact ⟨v, q1, q2.mono g.g fun a u _ z => g.h a u z⟩
  · obtain ⟨q1, o, q2⟩ := E.out i a h
    refine ⟨?_, o, g.h a o q2⟩
    cases q : G' a with
    | none => rfl
    | some u =>
      rcases g.new a u q with z | z
      · rw [q1] at z; cases z
      · rw [q2] at z; cases z
/-- a value is stored, shared or fresh -/
theorem EnvOk.store (E : EnvOk K ca G H σ ρ f) {v : V} {o : O} {g : AS} {i : Nat} (hi : i < σ.length) (h : Ow K ca G H v o g) (new : ∀ a, g a → (∀ j, j ≠ i → ¬ f j a) ∧ G a = none ∧ ∃ u, H a = some u) :
    EnvOk K ca G H (σ.set i (some v)) (ρ.set i (some o)) (fun j => if j = i then g else f j) := by
  refine ⟨E.sub, fun j u hj => ?_, fun j k a h1 h2 => ?_, fun j a h1 => ?_⟩
  · by_cases e : j = i
    · subst e
      have hl : j < (ρ.set j (some o)).length := (List.getElem?_eq_some_iff.mp hj).1
      rw [List.length_set] at hl
      rw [List.getElem?_set_self hl] at hj
      cases hj
      exact ⟨v, List.getElem?_set_self hi, by simpa using h⟩
    · rw [List.getElem?_set_ne (Ne.symm e)] at hj
      obtain ⟨w, q1, q2⟩ := E.slot j u hj
      exact ⟨w, by rw [List.getElem?_set_ne (Ne.symm e)]; exact q1, by simpa [e] using q2⟩
  · by_cases e1 : j = i
    · by_cases e2 : k = i
      · rw [e1, e2]
      · simp only [e1, if_true, e2, if_false] at h1 h2
        exact ((new a h1).1 k e2 h2).elim
    · by_cases e2 : k = i
      · simp only [e1, if_false, e2, if_true] at h1 h2
        exact ((new a h2).1 j e1 h1).elim
      · simp only [e1, if_false, e2] at h1 h2
        exact E.sep j k a h1 h2
  · by_cases e1 : j = i
    · simp only [e1, if_true] at h1
      exact (new a h1).2
    · simp only [e1, if_false] at h1
      exact E.out j a h1
/-- less is known -/
def Env.le (ρ' ρ : Env) : Prop := ∀ (i : Nat) (o : O), ρ'[i]? = some (some o) → ρ[i]? = some (some o)
theorem EnvOk.weak (E : EnvOk K ca G H σ ρ f) (h : Env.le ρ' ρ) : EnvOk K ca G H σ ρ' f := ⟨E.sub, fun i o q => E.slot i o (h i o q), E.sep, E.out⟩
end
end Lk
namespace Lk
open PySem PySem.Spec PyProof.Rows L2
/-- the heap grows; what is new in the shared part was not there at the base Hb -/
structure Gb (Hb G H G' H' : Hp) : Prop where
  g : Same G G'
  sub : Same G' H'
  h : Same H H'
  new : ∀ a o, G' a = some o → G a = some o ∨ Hb a = none
section
variable {Hb G H G1 H1 G2 H2 : Hp}
theorem Gb.refl (s : Same G H) : Gb Hb G H G H := ⟨Same.refl _, s, Same.refl _, fun _ _ h => .inl h⟩
theorem Gb.trans (a : Gb Hb G H G1 H1) (b : Gb Hb G1 H1 G2 H2) : Gb Hb G H G2 H2 :=
  ⟨a.g.trans b.g, b.sub, a.h.trans b.h, fun x o h => (b.new x o h).elim (a.new x o) .inr⟩
theorem Gb.of {H0 : Hp} (s : Same Hb H0) (a : Grow G H0 G1 H1) : Gb Hb G H0 G1 H1 := ⟨a.g, a.sub, a.h, fun x o h => (a.new x o h).elim .inl fun q => .inr (s.free q)⟩
theorem Gb.grow (a : Gb H G H G1 H1) : Grow G H G1 H1 := ⟨a.g, a.sub, a.h, a.new⟩
/-- a new shared object -/
theorem Gb.alloc {p : Addr} {o : HO} (s : Same G H) (b : Same Hb H) (hp : H p = none) : Gb Hb G H (upd G p o) (upd H p o) := by
  have gp : G p = none := s.free hp
  refine ⟨fun a u h => ?_, fun a u h => ?_, fun a u h => ?_, fun a u h => ?_⟩
  · rw [upd_ne (ne_of_none h gp)]; exact h
  · by_cases e : a = p
    · subst e
      rw [upd_same] at h ⊢
      exact h
    · rw [upd_ne e] at h ⊢
      exact s a u h
  · rw [upd_ne (ne_of_none h hp)]; exact h
  · by_cases e : a = p
    · subst e
      exact .inr (b.free hp)
    · rw [upd_ne e] at h
      exact .inl h
/-- a new object that is owned -/
theorem Gb.own {p : Addr} {o : HO} (s : Same G H) (hp : H p = none) : Gb Hb G H G (upd H p o) := by
  refine ⟨Same.refl _, fun a u h => ?_, fun a u h => ?_, fun a u h => .inl h⟩
  · rw [upd_ne (ne_of_none (s a u h) hp)]; exact s a u h
  · rw [upd_ne (ne_of_none h hp)]; exact h
end
/-- the core of all readings of expressions: the run's result m, and what is wanted of it -/
structure Cr {α : Type} (K : PySem.W.Frag) (ca : Nat → Addr) (W : WX) (ρ : Env) (σ : L2.St) (Hb G H : Hp) (m : Res α) (P : α → Hp → Hp → Prop) : Prop where
  sb : Same Hb H
  env : ∃ f, EnvOk K ca G H σ ρ f ∧ ∀ i a, f i a → ∃ u, Hb a = some u
  nb : m ≠ .bug
  ok : ∀ a, m = .ok a → ∀ G' H', Gb Hb G H G' H' → P a G' H'
  ex : ∀ c, m = .exc c → ∀ G' H', Gb Hb G H G' H' → W (.ref (ca c)) none σ H'
section
variable {α β : Type} {K : PySem.W.Frag} {ca : Nat → Addr} {W : WX} {ρ : Env} {σ : L2.St} {Hb G H G1 H1 : Hp} {P : α → Hp → Hp → Prop} {P' : β → Hp → Hp → Prop}
theorem EnvOk.gb {f : Nat → AS} (E : EnvOk K ca G H σ ρ f) (b : ∀ i a, f i a → ∃ u, Hb a = some u) (g : Gb Hb G H G1 H1) : EnvOk K ca G1 H1 σ ρ f := by
  refine ⟨g.sub, fun i o h => ?_, E.sep, fun i a h => ?_⟩
  · obtain ⟨v, q1, q2⟩ := E.slot i o h
    exact ⟨v, q1, q2.mono g.g fun a u _ z => g.h a u z⟩
  · obtain ⟨q1, o, q2⟩ := E.out i a h
    refine ⟨?_, o, g.h a o q2⟩
    cases q : G1 a with
    | none => rfl
    | some u =>
      rcases g.new a u q with z | z
      · rw [q1] at z; cases z
      · obtain ⟨w, hw⟩ := b i a h
        rw [hw] at z; cases z
theorem Cr.sub {m : Res α} (h : Cr K ca W ρ σ Hb G H m P) : Same G H := let ⟨_, E, _⟩ := h.env; E.sub
theorem Cr.cut {m : Res α} {k : α → Res β} (h : Cr K ca W ρ σ Hb G H (m >>= k) P') (hk : ∀ a G1 H1, m = .ok a → Gb Hb G H G1 H1 → Cr K ca W ρ σ Hb G1 H1 (k a) P' → P a G1 H1) : Cr K ca W ρ σ Hb G H m P := by
  obtain ⟨f, E, hf⟩ := h.env
  refine ⟨h.sb, ⟨f, E, hf⟩, fun e => h.nb (by rw [e]; rfl), fun a e G1 H1 gr => hk a G1 H1 e gr ⟨h.sb.trans gr.h, ⟨f, E.gb hf gr, hf⟩, fun e2 => h.nb (by rw [e]; exact e2), fun b e2 G2 H2 gr2 => h.ok b (by rw [e]; exact e2) G2 H2 (gr.trans gr2), fun c e2 G2 H2 gr2 => h.ex c (by rw [e]; exact e2) G2 H2 (gr.trans gr2)⟩,
    fun c e G1 H1 gr => h.ex c (by rw [e]; rfl) G1 H1 gr⟩
/-- as it stands, with another wish -/
theorem Cr.to {m : Res α} {P2 : α → Hp → Hp → Prop} (h : Cr K ca W ρ σ Hb G H m P) (hk : ∀ a G1 H1, m = .ok a → Gb Hb G H G1 H1 → P a G1 H1 → P2 a G1 H1) : Cr K ca W ρ σ Hb G H m P2 :=
  ⟨h.sb, h.env, h.nb, fun a e G1 H1 gr => hk a G1 H1 e gr (h.ok a e G1 H1 gr), h.ex⟩
theorem Cr.done {a : α} (h : Cr K ca W ρ σ Hb G H (.ok a) P) : P a G H := h.ok a rfl G H (.refl h.sub)
theorem Cr.go {a : α} (h : Cr K ca W ρ σ Hb G H (.ok a) P) (g : Gb Hb G H G1 H1) : P a G1 H1 := h.ok a rfl G1 H1 g
end
/-! ### the readings -/
section
variable (K : PySem.W.Frag) (ca : Nat → Addr) (W : WX) (ρ : Env)
/-- data -/
def tD (m : Res D) : TE := fun σ H Q => ∃ Hb G, Cr K ca W ρ σ Hb G H m fun d G' H' => ∀ v, R K ca G' v d → Q v H'
/-- a new list, of the asker's own -/
def tL (m : Res (List D)) : TE := fun σ H Q => ∃ Hb G, Cr K ca W ρ σ Hb G H m fun xs G' H' => ∀ p vs, Hb p = none → G' p = none → H' p = some (.lst vs) → RL K ca G' vs xs → Q (.ref p) H'
/-- a test -/
def tB (m : Res Bool) : TT := fun σ H Q => ∃ Hb G, Cr K ca W ρ σ Hb G H m fun b _ H' => Q b H'
/-- arguments -/
def tArg (m : Res (List D)) : TA := fun σ H Q => ∃ Hb G, Cr K ca W ρ σ Hb G H m fun ds G' H' => ∀ vs, RL K ca G' vs ds → Q vs H'
/-- a bound of a slice -/
def tPart' (m : Res (Option Int)) : TO := fun σ H Q => ∃ Hb G, Cr K ca W ρ σ Hb G H m fun i _ H' => Q i H'
end
theorem PE.of {X : Cx} {e : Expr} {t t' : TE} (h : PE X e t) (k : ∀ σ H Q, t' σ H Q → t σ H Q) : PE X e t' := ⟨fun pins s σ H Q I q => h.run pins s σ H Q I (k σ H Q q)⟩
theorem PT.of {X : Cx} {e : Expr} {t t' : TT} (h : PT X e t) (k : ∀ σ H Q, t' σ H Q → t σ H Q) : PT X e t' := ⟨fun pins s σ H Q I q => h.run pins s σ H Q I (k σ H Q q)⟩
theorem PW.of {X : Cx} {e : Expr} {t t' : TT} (h : PW X e t) (k : ∀ σ H Q, t' σ H Q → t σ H Q) : PW X e t' := ⟨fun wh pins s σ H Q I q => h.run wh pins s σ H Q I (k σ H Q q)⟩
theorem PA.of {X : Cx} {e : List Expr} {t t' : TA} (h : PA X e t) (k : ∀ σ H Q, t' σ H Q → t σ H Q) : PA X e t' := ⟨fun pos pins s σ H Q I q => h.run pos pins s σ H Q I (k σ H Q q)⟩
theorem PE.two {X : Cx} {e : Expr} {t t' : TE} (h : PE X e t) (h' : PE X e t') : PE X e (fun σ H Q => t σ H Q ∨ t' σ H Q) := ⟨fun pins s σ H Q I q => q.elim (h.run pins s σ H Q I) (h'.run pins s σ H Q I)⟩
theorem PS.of {X : Cx} {e : Stmt} {t t' : TS} (h : PS X e t) (k : ∀ D σ H, t' D σ H → t D σ H) : PS X e t' := ⟨fun pins s σ H D I q => h.run pins s σ H D I (k D σ H q)⟩
theorem PSs.of {X : Cx} {e : List Stmt} {t t' : TS} (h : PSs X e t) (k : ∀ D σ H, t' D σ H → t D σ H) : PSs X e t' := ⟨fun pins s σ H D I q => h.run pins s σ H D I (k D σ H q)⟩
/-! ### operations on values, told by data -/
/-- a rule of values r keeps to f -/
def Lift2 (K : PySem.W.Frag) (ca : Nat → Addr) (r : R2) (f : D → D → Res D) : Prop := ∀ {Hb G H : Hp} {v w : V} {x y : D} {Q : VK}, Same Hb H → Same G H → R K ca G v x → R K ca G w y → f x y ≠ .bug →
  (∀ z G' H', f x y = .ok z → Gb Hb G H G' H' → ∀ v', R K ca G' v' z → Q v' H') → r v w H Q
def Lift1 (K : PySem.W.Frag) (ca : Nat → Addr) (r : V → Hp → VK → Prop) (f : D → Res D) : Prop := ∀ {Hb G H : Hp} {v : V} {x : D} {Q : VK}, Same Hb H → Same G H → R K ca G v x → f x ≠ .bug →
  (∀ z G' H', f x = .ok z → Gb Hb G H G' H' → ∀ v', R K ca G' v' z → Q v' H') → r v H Q
def LiftA (K : PySem.W.Frag) (ca : Nat → Addr) (r : List V → Hp → VK → Prop) (f : List D → Res D) : Prop := ∀ {Hb G H : Hp} {vs : List V} {xs : List D} {Q : VK}, Same Hb H → Same G H → RL K ca G vs xs → f xs ≠ .bug →
  (∀ z G' H', f xs = .ok z → Gb Hb G H G' H' → ∀ v', R K ca G' v' z → Q v' H') → r vs H Q
/-- .. that gives a new list -/
def LiftAL (K : PySem.W.Frag) (ca : Nat → Addr) (r : List V → Hp → VK → Prop) (f : List D → Res (List D)) : Prop := ∀ {G H : Hp} {vs : List V} {xs : List D} {Q : VK}, Same G H → RL K ca G vs xs → f xs ≠ .bug →
  (∀ zs p ws, f xs = .ok zs → H p = none → RL K ca G ws zs → Q (.ref p) (upd H p (.lst ws))) → r vs H Q
def Lift2L (K : PySem.W.Frag) (ca : Nat → Addr) (r : R2) (f : D → D → Res (List D)) : Prop := ∀ {G H : Hp} {v w : V} {x y : D} {Q : VK}, Same G H → R K ca G v x → R K ca G w y → f x y ≠ .bug →
  (∀ zs p ws, f x y = .ok zs → H p = none → RL K ca G ws zs → Q (.ref p) (upd H p (.lst ws))) → r v w H Q
section
variable {X : Cx} {ca : Nat → Addr} {W : WX} {ρ : Env} {a b c e : Expr} {es : List Expr} {pos : Pos} {ma mb mc m : Res D} {i : Nat}
/-! ### names and constants -/
theorem e_var {n : Str} {p : Pos} {x : D} (hN : X.N[i]? = some n) (hv : Vis X.env.scope n) (h : ρ[i]? = some (some (.d x))) (hd : (n == ("__debug__" : Str)) = false) (hcd : (n == ("__classdict__" : Str)) = false) : PE X (.Name n p) (tD X.K ca W ρ (.ok x)) :=
  PE.of (pe_var hN hv hd hcd) fun σ H Q ⟨Hb, G, h1⟩ => by
    obtain ⟨f, E, _⟩ := h1.env
    obtain ⟨v, q1, q2⟩ := E.slot i _ h
    cases q2 with
    | d q2 => exact ⟨v, q1, h1.done v q2⟩
theorem e_const {v : V} {x : D} (h : PE X e (tC v)) (r : ∀ G, R X.K ca G v x) : PE X e (tD X.K ca W ρ (.ok x)) := PE.of h fun σ H Q ⟨Hb, G, h1⟩ => h1.done v (r G)
theorem e_int {i : Int} {j pos} : PE X (.Constant (.int i) j pos) (tD X.K ca W ρ (.ok (.int i))) := e_const pe_int fun _ => .int _
theorem e_str {x : Str} {j pos} : PE X (.Constant (.str x) j pos) (tD X.K ca W ρ (.ok (.str x))) := e_const pe_str fun _ => .str _
theorem e_bl {x : Bool} {j pos} : PE X (.Constant (.bool x) j pos) (tD X.K ca W ρ (.ok (.bl x))) := e_const pe_bl fun _ => .bl _
theorem e_non {j pos} : PE X (.Constant .none j pos) (tD X.K ca W ρ (.ok .non)) := e_const pe_non fun _ => .non
/-- a module's constant -/
theorem e_glob {n : Str} {p : Pos} {v : V} {u : Value} {x : D} (hg : Gl X n) (hm : X.mg n = some u) (rv : RelV v u) (r : ∀ G, R X.K ca G v x) (hd : (n == ("__debug__" : Str)) = false) : PE X (.Name n p) (tD X.K ca W ρ (.ok x)) := e_const (pe_glob hg hm rv hd) r
/-! ### operators -/
theorem e_op {op : Operator} {r : R2} {f : D → D → Res D} (ho : OpR X (binaryOp op) r) (l : Lift2 X.K ca r f) (ha : PE X a (tD X.K ca W ρ ma)) (hb : PE X b (tD X.K ca W ρ mb)) :
    PE X (.BinOp a op b pos) (tD X.K ca W ρ (ma >>= fun x => mb >>= fun y => f x y)) :=
  PE.of (pe_op ho ha hb) fun σ H Q ⟨Hb, G, h⟩ => ⟨Hb, G, h.cut fun x G1 H1 _ g1 h1 v rv => ⟨Hb, G1, h1.cut fun y G2 H2 _ g2 h2 w rw' =>
    l h2.sb h2.sub (rv.mono g2.g) rw' h2.nb fun z G' H' ez g' v' r' => h2.ok z ez G' H' g' v' r'⟩⟩
theorem e_opL {op : Operator} {r : R2} {f : D → D → Res (List D)} (ho : OpR X (binaryOp op) r) (l : Lift2L X.K ca r f) (ha : PE X a (tD X.K ca W ρ ma)) (hb : PE X b (tD X.K ca W ρ mb)) :
    PE X (.BinOp a op b pos) (tL X.K ca W ρ (ma >>= fun x => mb >>= fun y => f x y)) :=
  PE.of (pe_op ho ha hb) fun σ H Q ⟨Hb, G, h⟩ => ⟨Hb, G, h.cut fun x G1 H1 _ g1 h1 v rv => ⟨Hb, G1, h1.cut fun y G2 H2 _ g2 h2 w rw' =>
    l h2.sub (rv.mono g2.g) rw' h2.nb fun zs p ws ez hp rl => h2.ok zs ez _ _ (Gb.own h2.sub hp) p ws (h2.sb.free hp) (h2.sub.free hp) upd_same rl⟩⟩
theorem e_un {op : UnaryOp} {r : V → Hp → VK → Prop} {f : D → Res D} (ho : UnR X (unaryOp op) r) (l : Lift1 X.K ca r f) (ha : PE X a (tD X.K ca W ρ ma)) : PE X (.UnaryOp op a pos) (tD X.K ca W ρ (ma >>= fun x => f x)) :=
  PE.of (pe_un ho ha) fun σ H Q ⟨Hb, G, h⟩ => ⟨Hb, G, h.cut fun x G1 H1 _ g1 h1 v rv => l h1.sb h1.sub rv h1.nb fun z G' H' ez g' v' r' => h1.ok z ez G' H' g' v' r'⟩
theorem e_cmp {op : CmpOp} {r : R2} {f : D → D → Res D} (ho : OpR X (compareOp op) r) (l : Lift2 X.K ca r f) (ha : PE X a (tD X.K ca W ρ ma)) (hb : PE X b (tD X.K ca W ρ mb)) (hm : behindInMarks op b = false) :
    PE X (.Compare a [op] [b] pos) (tD X.K ca W ρ (ma >>= fun x => mb >>= fun y => f x y)) :=
  PE.of (pe_cmpR ho ha hb hm) fun σ H Q ⟨Hb, G, h⟩ => ⟨Hb, G, h.cut fun x G1 H1 _ g1 h1 v rv => ⟨Hb, G1, h1.cut fun y G2 H2 _ g2 h2 w rw' =>
    l h2.sb h2.sub (rv.mono g2.g) rw' h2.nb fun z G' H' ez g' v' r' => h2.ok z ez G' H' g' v' r'⟩⟩
/-- a truth value -/
def D.toB : D → Res Bool
  | .bl b => .ok b
  | _ => .bug
@[simp] theorem toB_bl (b : Bool) : D.toB (.bl b) = .ok b := rfl
theorem t_cmp {op : CmpOp} {r : R2} {f : D → D → Res D} (ho : OpR X (compareOp op) r) (l : Lift2 X.K ca r f) (ha : PE X a (tD X.K ca W ρ ma)) (hb : PE X b (tD X.K ca W ρ mb)) (hm : behindInMarks op b = false) :
    PT X (.Compare a [op] [b] pos) (tB X.K ca W ρ (ma >>= fun x => mb >>= fun y => f x y >>= D.toB)) :=
  PT.of (pt_cmpR ho ha hb hm) fun σ H Q ⟨Hb, G, h⟩ => ⟨Hb, G, h.cut fun x G1 H1 _ g1 h1 v rv => ⟨Hb, G1, h1.cut fun y G2 H2 _ g2 h2 w rw' => by
    have h3 := h2.cut (P := fun z G' H' => ∀ v', R X.K ca G' v' z → ∃ k, v' = V.bl k ∧ Q k H') fun z G3 H3 ez g3 h4 v' r' => by
      cases z with
      | bl k =>
        cases r'
        exact ⟨k, rfl, h4.done⟩
      | _ => exact (h4.nb rfl).elim
    exact l h2.sb h2.sub (rv.mono g2.g) rw' h3.nb fun z G' H' ez g' v' r' => h3.ok z ez G' H' g' v' r'⟩⟩
/-- a value that is True or False, as a test -/
theorem t_val (ha : PE X a (tD X.K ca W ρ ma)) (he : ∀ whole, isTrue a X.env whole = (do let v ← whole; standAt a.pos; holding [v] (truthy v)) := by intro _; rfl) : PT X a (tB X.K ca W ρ (ma >>= D.toB)) :=
  PT.of (pt_val ha he) fun σ H Q ⟨Hb, G, h⟩ => ⟨Hb, G, h.cut fun x G1 H1 _ g1 h1 v rv => by
    cases x with
    | bl k =>
      cases rv
      exact ⟨k, rfl, h1.done⟩
    | _ => exact (h1.nb rfl).elim⟩
/-- a value's truth -/
def D.truth : D → Res Bool
  | .non => .ok false
  | .bl b => .ok b
  | .int i => .ok (i != 0)
  | .str s => if s.length ≤ 100000 then .ok (s.length != 0) else .bug
  | .lst xs => .ok (!xs.isEmpty)
  | .tup xs => .ok (!xs.isEmpty)
  | _ => .bug
theorem sz' {n : Nat} (h : n ≤ 100000) : n ≤ sizeLine := Nat.le_trans h (by decide)
theorem t_truth (ha : PE X a (tD X.K ca W ρ ma)) (he : ∀ whole, isTrue a X.env whole = (do let v ← whole; standAt a.pos; holding [v] (truthy v)) := by intro _; rfl) : PT X a (tB X.K ca W ρ (ma >>= D.truth)) :=
  PT.of (pt_truth ha he) fun σ H Q ⟨Hb, G, h⟩ => ⟨Hb, G, h.cut fun x G1 H1 _ g1 h1 v rv => by
    cases x with
    | non => cases rv; exact ⟨false, rfl, h1.done⟩
    | bl k => cases rv; exact ⟨k, rfl, h1.done⟩
    | int i => cases rv; exact ⟨_, rfl, h1.done⟩
    | str s =>
      cases rv
      by_cases hs : s.length ≤ 100000
      · have e : D.truth (.str s) = .ok (s.length != 0) := if_pos hs
        refine ⟨_, ⟨sz' hs, ?_⟩, h1.ok _ e _ _ (.refl h1.sub)⟩
        cases hz : s.length with
        | zero => rfl
        | succ n => simp; omega
      · exact (h1.nb (if_neg hs)).elim
    | lst xs =>
      cases rv with
      | lst q1 q2 =>
        refine ⟨_, .inl ⟨_, Same.sqL h1.sub q1, rfl⟩, ?_⟩
        have e := RL.length q2
        rename_i a' vs
        have e2 : (!vs.isEmpty) = (!xs.isEmpty) := by cases vs <;> cases xs <;> first | rfl | (simp at e)
        rw [e2]
        exact h1.done
    | tup xs =>
      cases rv with
      | tup q1 q2 =>
        refine ⟨_, .inr (.inl ⟨_, Same.sqT h1.sub q1, rfl⟩), ?_⟩
        have e := RL.length q2
        rename_i a' vs
        have e2 : (!vs.isEmpty) = (!xs.isEmpty) := by cases vs <;> cases xs <;> first | rfl | (simp at e)
        rw [e2]
        exact h1.done
    | ins c fs => exact (h1.nb rfl).elim
    | dic fs => exact (h1.nb rfl).elim
    | any => exact (h1.nb rfl).elim⟩
/-! ### and, or, not -/
variable {na nb : Res Bool} {rest : List Expr}
theorem t_not (ha : PT X a (tB X.K ca W ρ na)) : PT X (.UnaryOp .Not a pos) (tB X.K ca W ρ (na >>= fun x => .ok (!x))) :=
  PT.of (pt_not ha) fun σ H Q ⟨Hb, G, h⟩ => ⟨Hb, G, h.cut fun x G1 H1 _ g1 h1 => h1.done⟩
theorem w_and1 (ha : PT X a (tB X.K ca W ρ na)) : PW X (.BoolOp .And [a] pos) (tB X.K ca W ρ na) := pw_and1 ha
theorem w_or1 (ha : PT X a (tB X.K ca W ρ na)) : PW X (.BoolOp .Or [a] pos) (tB X.K ca W ρ na) := pw_or1 ha
theorem w_and (ha : PT X a (tB X.K ca W ρ na)) (hb : PW X (.BoolOp .And (b :: rest) pos) (tB X.K ca W ρ nb)) : PW X (.BoolOp .And (a :: b :: rest) pos) (tB X.K ca W ρ (na >>= fun x => if x then nb else .ok false)) :=
  PW.of (pw_and ha hb) fun σ H Q ⟨Hb, G, h⟩ => ⟨Hb, G, h.cut fun x G1 H1 _ g1 h1 => by
    cases x with
    | true => exact ⟨Hb, G1, h1⟩
    | false => exact h1.done⟩
theorem w_or (ha : PT X a (tB X.K ca W ρ na)) (hb : PW X (.BoolOp .Or (b :: rest) pos) (tB X.K ca W ρ nb)) : PW X (.BoolOp .Or (a :: b :: rest) pos) (tB X.K ca W ρ (na >>= fun x => if x then .ok true else nb)) :=
  PW.of (pw_or ha hb) fun σ H Q ⟨Hb, G, h⟩ => ⟨Hb, G, h.cut fun x G1 H1 _ g1 h1 => by
    cases x with
    | true => exact h1.done
    | false => exact ⟨Hb, G1, h1⟩⟩
/-- .. as values, all but the last True or False -/
theorem e_one {op} (h : PE X a (tD X.K ca W ρ ma)) : PE X (.BoolOp op [a] pos) (tD X.K ca W ρ ma) := pe_one h
theorem e_and (ha : PE X a (tD X.K ca W ρ ma)) (hb : PE X (.BoolOp .And (b :: rest) pos) (tD X.K ca W ρ mb)) : PE X (.BoolOp .And (a :: b :: rest) pos) (tD X.K ca W ρ (ma >>= fun x => D.toB x >>= fun k => if k then mb else .ok (.bl false))) :=
  PE.of (pe_and ha hb) fun σ H Q ⟨Hb, G, h⟩ => ⟨Hb, G, h.cut fun x G1 H1 _ g1 h1 v rv => by
    cases x with
    | bl k =>
      cases rv
      refine ⟨k, rfl, ?_⟩
      cases k with
      | true => exact ⟨Hb, G1, h1⟩
      | false => exact h1.done _ (.bl false)
    | _ => exact (h1.nb rfl).elim⟩
theorem e_or (ha : PE X a (tD X.K ca W ρ ma)) (hb : PE X (.BoolOp .Or (b :: rest) pos) (tD X.K ca W ρ mb)) : PE X (.BoolOp .Or (a :: b :: rest) pos) (tD X.K ca W ρ (ma >>= fun x => D.toB x >>= fun k => if k then .ok (.bl true) else mb)) :=
  PE.of (pe_or ha hb) fun σ H Q ⟨Hb, G, h⟩ => ⟨Hb, G, h.cut fun x G1 H1 _ g1 h1 v rv => by
    cases x with
    | bl k =>
      cases rv
      refine ⟨k, rfl, ?_⟩
      cases k with
      | true => exact h1.done _ (.bl true)
      | false => exact ⟨Hb, G1, h1⟩
    | _ => exact (h1.nb rfl).elim⟩
/-- not a, a True or False -/
theorem e_not (ha : PE X a (tD X.K ca W ρ ma)) : PE X (.UnaryOp .Not a pos) (tD X.K ca W ρ (ma >>= fun x => D.toB x >>= fun k => .ok (.bl (!k)))) :=
  PE.of (pe_not ha) fun σ H Q ⟨Hb, G, h⟩ => ⟨Hb, G, h.cut fun x G1 H1 _ g1 h1 v rv => by
    cases x with
    | bl k =>
      cases rv
      exact ⟨k, rfl, h1.done _ (.bl _)⟩
    | _ => exact (h1.nb rfl).elim⟩
theorem e_if (hc : PT X c (tB X.K ca W ρ na)) (ha : PE X a (tD X.K ca W ρ ma)) (hb : PE X b (tD X.K ca W ρ mb)) : PE X (.IfExp c a b pos) (tD X.K ca W ρ (na >>= fun x => if x then ma else mb)) :=
  PE.of (pe_ifExp hc ha hb) fun σ H Q ⟨Hb, G, h⟩ => ⟨Hb, G, h.cut fun x G1 H1 _ g1 h1 => by
    cases x with
    | true => exact ⟨Hb, G1, h1⟩
    | false => exact ⟨Hb, G1, h1⟩⟩
/-! ### arguments, displays -/
variable {mas : Res (List D)}
theorem a_nil : PA X [] (tArg X.K ca W ρ (.ok [])) := PA.of pa_nil fun σ H Q ⟨Hb, G, h⟩ => h.done [] .nil
theorem a_cons (ha : PE X e (tD X.K ca W ρ ma)) (hr : PA X es (tArg X.K ca W ρ mas)) (hs : starEach (e :: es) X.env = (false, eval e X.env) :: starEach es X.env := by rfl) : PA X (e :: es) (tArg X.K ca W ρ (ma >>= fun x => mas >>= fun xs => .ok (x :: xs))) :=
  PA.of (pa_cons ha hr hs) fun σ H Q ⟨Hb, G, h⟩ => ⟨Hb, G, h.cut fun x G1 H1 _ g1 h1 v rv => ⟨Hb, G1, h1.cut fun xs G2 H2 _ g2 h2 vs rvs => h2.done _ (.cons (rv.mono g2.g) rvs)⟩⟩
/-- sizes of what is made -/
def Res.sized (xs : List D) : Res (List D) := if xs.length ≤ 100000 then .ok xs else .bug
theorem Res.sized_ok {xs : List D} (h : xs.length ≤ 100000) : Res.sized xs = .ok xs := if_pos h
theorem e_tup {k} (h : PA X es (tArg X.K ca W ρ mas)) : PE X (.Tuple es k pos) (tD X.K ca W ρ (mas >>= fun xs => Res.sized xs >>= fun xs => .ok (.tup xs))) :=
  PE.of (pe_tup h) fun σ H Q ⟨Hb, G, h⟩ => ⟨Hb, G, h.cut fun xs G1 H1 _ g1 h1 vs rvs => by
    by_cases hz : xs.length ≤ 100000
    · rw [Res.sized_ok hz] at h1
      refine ⟨sz' (by rw [rvs.length]; exact hz), fun p hp => ?_⟩
      have g := Gb.alloc (o := .tup vs) h1.sub h1.sb hp
      exact h1.ok _ rfl _ _ g _ (.tup (.inl (.inl upd_same)) (rvs.mono g.g))
    · exact (h1.nb (by unfold Res.sized; rw [if_neg hz]; rfl)).elim⟩
theorem e_lst (h : PA X es (tArg X.K ca W ρ mas)) : PE X (.List es pos) (tL X.K ca W ρ (mas >>= fun xs => Res.sized xs)) :=
  PE.of (pe_lst h) fun σ H Q ⟨Hb, G, h⟩ => ⟨Hb, G, h.cut fun xs G1 H1 _ g1 h1 vs rvs => by
    by_cases hz : xs.length ≤ 100000
    · rw [Res.sized_ok hz] at h1
      refine ⟨sz' (by rw [rvs.length]; exact hz), fun p hp => ?_⟩
      exact h1.go (Gb.own h1.sub hp) p vs (h1.sb.free hp) (h1.sub.free hp) upd_same rvs
    · exact (h1.nb (if_neg hz)).elim⟩
/-- a new list is shared -/
theorem e_pub (h : PE X e (tL X.K ca W ρ mas)) : PE X e (tD X.K ca W ρ (mas >>= fun xs => .ok (.lst xs))) :=
  PE.of h fun σ H Q ⟨Hb, G, h⟩ => ⟨Hb, G, h.cut fun xs G1 H1 _ g1 h1 p vs hp gp hh rl => by
    have g : Gb Hb G1 H1 (upd G1 p (.lst vs)) H1 := by
      refine ⟨fun a u z => ?_, fun a u z => ?_, Same.refl _, fun a u z => ?_⟩
      · rw [upd_ne (ne_of_none z gp)]; exact z
      · by_cases e : a = p
        · subst e
          rw [upd_same] at z
          rw [hh]; exact z
        · rw [upd_ne e] at z
          exact h1.sub a u z
      · by_cases e : a = p
        · subst e
          exact .inr hp
        · rw [upd_ne e] at z
          exact .inl z
    exact h1.go g _ (.lst (.inl (.inl upd_same)) (rl.mono g.g))⟩
/-- a value as the only argument, the last -/
theorem a_one (ha : PE X e (tD X.K ca W ρ ma)) (hs : starEach (e :: []) X.env = (false, eval e X.env) :: starEach [] X.env := by rfl) : PA X [e] (tArg X.K ca W ρ (ma >>= fun x => .ok [x])) :=
  PA.of (a_cons ha a_nil hs) fun σ H Q ⟨Hb, G, h⟩ => ⟨Hb, G, h⟩
/-! ### built-in calls -/
variable {id T : String} {n : Str} {p : Pos}
theorem e_callB {r : List V → Hp → VK → Prop} {f : List D → Res D} (hc : CallR X (.builtin id) r) (l : LiftA X.K ca r f) (hg : Gl X n) (hm : X.mg n = none) (hv : bootBuiltins n = some (.builtin id)) (ha : PA X (e :: es) (tArg X.K ca W ρ mas)) (hn : n ≠ "__name__" := by decide)
    (hdb : (n == ("__debug__" : Str)) = false := by decide) (he : starEach (e :: es) X.env = (false, eval e X.env) :: starEach es X.env := by rfl) (hpl : (backTo pos (starEach es X.env)).any (·.1) = false := by rfl) : PE X (.Call (.Name n p) (e :: es) [] pos) (tD X.K ca W ρ (mas >>= fun xs => f xs)) :=
  PE.of (pe_callB hc hg hm hv ha hn hdb he hpl) fun σ H Q ⟨Hb, G, h⟩ => ⟨Hb, G, h.cut fun xs G1 H1 _ g1 h1 vs rvs => l h1.sb h1.sub rvs h1.nb fun z G' H' ez g' v' r' => h1.ok z ez G' H' g' v' r'⟩
theorem e_callT {r : List V → Hp → VK → Prop} {f : List D → Res D} (hc : CallR X (.type T) r) (l : LiftA X.K ca r f) (hg : Gl X n) (hm : X.mg n = none) (hv : bootBuiltins n = some (.type T)) (ha : PA X (e :: es) (tArg X.K ca W ρ mas)) (hn : n ≠ "__name__" := by decide)
    (hdb : (n == ("__debug__" : Str)) = false := by decide) (he : starEach (e :: es) X.env = (false, eval e X.env) :: starEach es X.env := by rfl) (hpl : (backTo pos (starEach es X.env)).any (·.1) = false := by rfl) : PE X (.Call (.Name n p) (e :: es) [] pos) (tD X.K ca W ρ (mas >>= fun xs => f xs)) :=
  PE.of (pe_callTy hc hg hm hv ha hn hdb he hpl) fun σ H Q ⟨Hb, G, h⟩ => ⟨Hb, G, h.cut fun xs G1 H1 _ g1 h1 vs rvs => l h1.sb h1.sub rvs h1.nb fun z G' H' ez g' v' r' => h1.ok z ez G' H' g' v' r'⟩
theorem e_callTL {r : List V → Hp → VK → Prop} {f : List D → Res (List D)} (hc : CallR X (.type T) r) (l : LiftAL X.K ca r f) (hg : Gl X n) (hm : X.mg n = none) (hv : bootBuiltins n = some (.type T)) (ha : PA X (e :: es) (tArg X.K ca W ρ mas)) (hn : n ≠ "__name__" := by decide)
    (hdb : (n == ("__debug__" : Str)) = false := by decide) (he : starEach (e :: es) X.env = (false, eval e X.env) :: starEach es X.env := by rfl) (hpl : (backTo pos (starEach es X.env)).any (·.1) = false := by rfl) : PE X (.Call (.Name n p) (e :: es) [] pos) (tL X.K ca W ρ (mas >>= fun xs => f xs)) :=
  PE.of (pe_callTy hc hg hm hv ha hn hdb he hpl) fun σ H Q ⟨Hb, G, h⟩ => ⟨Hb, G, h.cut fun xs G1 H1 _ g1 h1 vs rvs => l h1.sub rvs h1.nb fun zs q ws ez hp rl => h1.ok zs ez _ _ (Gb.own h1.sub hp) q ws (h1.sb.free hp) (h1.sub.free hp) upd_same rl⟩
end
end Lk
namespace Lk
open PySem PySem.Spec PyProof.Rows L2
def lim : Nat := 100000
/-- a new shared object's value -/
theorem R.newT {K : PySem.W.Frag} {ca : Nat → Addr} {G : Hp} {p : Addr} {vs : List V} {xs : List D} (gp : G p = none) (h : RL K ca G vs xs) : R K ca (upd G p (.tup vs)) (.ref p) (.tup xs) :=
  .tup (.inl (.inl upd_same)) (h.mono fun a u z => by rw [upd_ne (ne_of_none z gp)]; exact z)
theorem R.newL {K : PySem.W.Frag} {ca : Nat → Addr} {G : Hp} {p : Addr} {vs : List V} {xs : List D} (gp : G p = none) (h : RL K ca G vs xs) : R K ca (upd G p (.lst vs)) (.ref p) (.lst xs) :=
  .lst (.inl (.inl upd_same)) (h.mono fun a u z => by rw [upd_ne (ne_of_none z gp)]; exact z)
/-! ### list + list, read -/
def rCatR (K : PySem.W.Frag) : R2 := fun x y H Q => ∃ l b xs zs, x = .ref l ∧ y = .ref b ∧ SqL K H l xs ∧ SqL K H b zs ∧ xs.length + zs.length ≤ sizeLine ∧ ∀ p, H p = none → Q (.ref p) (upd H p (.lst (xs ++ zs)))
theorem op_catR {X : Cx} : OpR X (binaryOp .Add) (rCatR X.K) := by
  intro pins s σ H x y v u Q I rx ry h
  obtain ⟨l, b, xs, zs, rfl, rfl, hH, hB, hz, q⟩ := h
  cases rx
  cases ry
  obtain ⟨its, r, ⟨⟨c1, d1, t1, sl1⟩, n, e, hc, _, hd⟩, _⟩ := I.list hH
  obtain ⟨its2, r2, ⟨⟨c2, d2, t2, sl2⟩, n2, e2, hc2, _, hd2⟩, _⟩ := I.list hB
  simp only at hc hd hc2 hd2
  subst hc hd hc2 hd2
  have hl := r.length
  have hl2 := r2.length
  refine concat_meets ⟨_, e, rfl⟩ ⟨_, e2, rfl⟩ noFill_list_add seq_list_add PySem.F.slot_list_add PySem.F.entry_list_add (PySem.F.args_list_add_2 _ _) (PyProof.Rows.list_addW l b its.toArray its2.toArray n n2 d1 d2 sl1 sl2 (by rw [List.size_toArray, List.size_toArray]; omega)) ⟨e, e2, ?_⟩
  have ea : its.toArray ++ its2.toArray = (its ++ its2).toArray := by simp
  rw [ea]
  exact ⟨.ref _, _, I.lnew (t' := s.toks) (r.append r2) (by rw [List.length_append]; omega), rfl, q _ I.fresh⟩
/-! ### arithmetic -/
def D.add : D → D → Res D
  | .int a, .int b => .ok (.int (a + b))
  | .str a, .str b => if a.length + b.length ≤ 100000 then .ok (.str (a ++ b)) else .bug
  | .lst a, .lst b => if a.length + b.length ≤ 100000 then .ok (.lst (a ++ b)) else .bug
  | .tup a, .tup b => if a.length + b.length ≤ 100000 then .ok (.tup (a ++ b)) else .bug
  | _, _ => .bug
def D.sub : D → D → Res D
  | .int a, .int b => .ok (.int (a - b))
  | _, _ => .bug
def D.mul : D → D → Res D
  | .int a, .int b => if a.natAbs.log2 + b.natAbs.log2 < 1000000 then .ok (.int (a * b)) else .bug
  | .str a, .int k => if a.length ≤ 16 ∧ 0 ≤ k ∧ k ≤ 100000 then .ok (.str (Txt.mul a k)) else .bug
  | _, _ => .bug
def D.fdiv : D → D → Res D
  | .int a, .int b => if 0 < b ∧ b.natAbs.log2 < 9000 then .ok (.int (a / b)) else .bug
  | _, _ => .bug
def D.mod : D → D → Res D
  | .int a, .int b => if 0 < b then .ok (.int (a % b)) else .bug
  | _, _ => .bug
def D.pow : D → D → Res D
  | .int a, .int b => if 0 ≤ b ∧ b ≤ 1000 ∧ a.natAbs < 18446744073709551616 then .ok (.int (a ^ b.toNat)) else .bug
  | _, _ => .bug
def D.neg : D → Res D
  | .int a => .ok (.int (-a))
  | _ => .bug
/-- a list and a list, new -/
def D.cat : D → D → Res (List D)
  | .lst a, .lst b => if a.length + b.length ≤ 100000 then .ok (a ++ b) else .bug
  | _, _ => .bug
@[simp] theorem add_int (a b : Int) : D.add (.int a) (.int b) = .ok (.int (a + b)) := rfl
@[simp] theorem sub_int (a b : Int) : D.sub (.int a) (.int b) = .ok (.int (a - b)) := rfl
@[simp] theorem neg_int (a : Int) : D.neg (.int a) = .ok (.int (-a)) := rfl
theorem mul_int' {a b : Int} (h : a.natAbs.log2 + b.natAbs.log2 < 1000000) : D.mul (.int a) (.int b) = .ok (.int (a * b)) := if_pos h
theorem fdiv_int {a b : Int} (h : 0 < b) (h2 : b.natAbs.log2 < 9000) : D.fdiv (.int a) (.int b) = .ok (.int (a / b)) := if_pos ⟨h, h2⟩
theorem mod_int {a b : Int} (h : 0 < b) : D.mod (.int a) (.int b) = .ok (.int (a % b)) := if_pos h
theorem log2_small {n k : Nat} (h : n < 2 ^ k) (hk : 0 < k) : n.log2 < k := PySem.Flt.log2_lt_of hk h
section
variable {K : PySem.W.Frag} {ca : Nat → Addr} {X : Cx}
/-- the shape of a lift that changes no heap: fin -/
theorem fin2 {f : D → D → Res D} {Hb G H : Hp} {x y : D} {Q : VK} {z : D} {v : V} (s : Same G H) (h : ∀ z G' H', f x y = .ok z → Gb Hb G H G' H' → ∀ v', R K ca G' v' z → Q v' H') (e : f x y = .ok z) (r : R K ca G v z) : Q v H := h z G H e (.refl s) v r
theorem l_sub : Lift2 K ca (rI0 fun i j => .int (i - j)) D.sub := by
  intro Hb G H v w x y Q sb s rv rw' nb h
  cases x <;> try exact (nb rfl).elim
  cases y <;> try exact (nb rfl).elim
  cases rv; cases rw'
  exact ⟨_, _, rfl, rfl, fin2 s h rfl (.int _)⟩
def rMulS : R2 := fun x y H Q => ∃ (a : Str) (k : Int), x = .str a ∧ y = .int k ∧ a.length ≤ 16 ∧ 0 ≤ k ∧ k ≤ 100000 ∧ Q (.str (Txt.mul a k)) H
theorem op_mulS {X : Cx} : OpR X (binaryOp .Mult) rMulS := by
  intro pins s σ H x y v u Q I rx ry h
  obtain ⟨a, k, rfl, rfl, h1, h2, h3, q⟩ := h
  obtain ⟨t, rfl⟩ := rx
  obtain ⟨t', rfl⟩ := ry
  exact PySem.W.KXi.mul rfl h1 (by omega) (by show k ≤ 1048576; omega) (fun t' tk _ _ => ⟨.str (Txt.mul a k), H, I.tok _, ⟨_, rfl⟩, q⟩)
def rMulA : R2 := fun x y H Q => rI CMulW (fun i j => .int (i * j)) x y H Q ∨ rMulS x y H Q
theorem op_mulA {X : Cx} : OpR X (binaryOp .Mult) rMulA := op_mulW.or op_mulS
theorem l_mul : Lift2 K ca rMulA D.mul := by
  intro Hb G H v w x y Q sb s rv rw' nb h
  cases x with
  | int a =>
    cases y <;> try exact (nb rfl).elim
    cases rv; cases rw'
    rename_i b
    by_cases hc : a.natAbs.log2 + b.natAbs.log2 < 1000000
    · exact .inl ⟨_, _, rfl, rfl, hc, fin2 s h (if_pos hc) (.int _)⟩
    · exact (nb (if_neg hc)).elim
  | str a =>
    cases y <;> try exact (nb rfl).elim
    cases rv; cases rw'
    rename_i b
    by_cases hc : a.length ≤ 16 ∧ 0 ≤ b ∧ b ≤ 100000
    · exact .inr ⟨_, _, rfl, rfl, hc.1, hc.2.1, hc.2.2, fin2 s h (if_pos hc) (.str _)⟩
    · exact (nb (if_neg hc)).elim
  | _ => exact (nb rfl).elim
theorem l_fdiv : Lift2 K ca (rI CDivW fun i j => .int (i / j)) D.fdiv := by
  intro Hb G H v w x y Q sb s rv rw' nb h
  cases x <;> try exact (nb rfl).elim
  cases y <;> try exact (nb rfl).elim
  cases rv; cases rw'
  rename_i a b
  by_cases hc : 0 < b ∧ b.natAbs.log2 < 9000
  · exact ⟨_, _, rfl, rfl, hc, fin2 s h (if_pos hc) (.int _)⟩
  · exact (nb (if_neg hc)).elim
theorem l_mod : Lift2 K ca (rI (fun _ j => 0 < j) fun i j => .int (i % j)) D.mod := by
  intro Hb G H v w x y Q sb s rv rw' nb h
  cases x <;> try exact (nb rfl).elim
  cases y <;> try exact (nb rfl).elim
  cases rv; cases rw'
  rename_i a b
  by_cases hc : 0 < b
  · exact ⟨_, _, rfl, rfl, hc, fin2 s h (if_pos hc) (.int _)⟩
  · exact (nb (if_neg hc)).elim
theorem l_pow : Lift2 K ca (rI CPow fun i j => .int (i ^ j.toNat)) D.pow := by
  intro Hb G H v w x y Q sb s rv rw' nb h
  cases x <;> try exact (nb rfl).elim
  cases y <;> try exact (nb rfl).elim
  cases rv; cases rw'
  rename_i a b
  by_cases hc : 0 ≤ b ∧ b ≤ 1000 ∧ a.natAbs < 18446744073709551616
  · exact ⟨_, _, rfl, rfl, ⟨hc.1, by omega, by have := hc.2.2; omega⟩, fin2 s h (if_pos hc) (.int _)⟩
  · exact (nb (if_neg hc)).elim
theorem l_neg : Lift1 K ca (rU fun i => .int (-i)) D.neg := by
  intro Hb G H v x Q sb s rv nb h
  cases x <;> try exact (nb rfl).elim
  cases rv
  exact ⟨_, rfl, h _ _ _ rfl (.refl s) _ (.int _)⟩
/-- + of two ints, texts, lists, tuples -/
def rAddA (K : PySem.W.Frag) : R2 := fun x y H Q => (rI0 (fun i j => .int (i + j)) x y H Q ∨ ∃ i j, x = .str i ∧ y = .str j ∧ i.length + j.length ≤ sizeLine ∧ Q (.str (i ++ j)) H) ∨ (rCatR K x y H Q ∨ rCatA K x y H Q)
theorem op_addA : OpR X (binaryOp .Add) (rAddA X.K) := (op_add.or op_add_str).or (op_catR.or op_catA)
theorem l_add : Lift2 K ca (rAddA K) D.add := by
  intro Hb G H v w x y Q sb s rv rw' nb h
  cases x <;> try exact (nb rfl).elim
  · cases y <;> try exact (nb rfl).elim
    cases rv; cases rw'
    exact .inl (.inl ⟨_, _, rfl, rfl, fin2 s h rfl (.int _)⟩)
  · cases y <;> try exact (nb rfl).elim
    cases rv; cases rw'
    rename_i a b
    by_cases hc : a.length + b.length ≤ 100000
    · exact .inl (.inr ⟨_, _, rfl, rfl, sz' hc, fin2 s h (if_pos hc) (.str _)⟩)
    · exact (nb (if_neg hc)).elim
  · cases y <;> try exact (nb rfl).elim
    rename_i a b
    by_cases hc : a.length + b.length ≤ 100000
    · cases rv with
      | lst q1 q2 =>
        cases rw' with
        | lst p1 p2 =>
          refine .inr (.inl ⟨_, _, _, _, rfl, rfl, Same.sqL s q1, Same.sqL s p1, sz' (by rw [q2.length, p2.length]; exact hc), fun p hp => ?_⟩)
          exact h _ _ _ (if_pos hc) (Gb.alloc s sb hp) _ (R.newL (s.free hp) (q2.append p2))
    · exact (nb (if_neg hc)).elim
  · cases y <;> try exact (nb rfl).elim
    rename_i a b
    by_cases hc : a.length + b.length ≤ 100000
    · cases rv with
      | tup q1 q2 =>
        cases rw' with
        | tup p1 p2 =>
          have e : ∀ z, z = a ++ b → D.add (.tup a) (.tup b) = .ok (.tup z) := fun z hz => by rw [hz]; exact if_pos hc
          refine .inr (.inr ⟨_, _, _, _, rfl, rfl, Same.sqT s q1, Same.sqT s p1, sz' (by rw [q2.length, p2.length]; exact hc), fun hx => ?_, fun _ hy => ?_, fun _ _ p hp => ?_⟩)
          · have ha : a = [] := by
              have := q2.length
              rw [hx] at this
              cases a with
              | nil => rfl
              | cons _ _ => simp at this
            exact h _ _ _ (e b (by rw [ha]; rfl)) (.refl s) _ (.tup p1 p2)
          · have hb : b = [] := by
              have := p2.length
              rw [hy] at this
              cases b with
              | nil => rfl
              | cons _ _ => simp at this
            exact h _ _ _ (e a (by rw [hb, List.append_nil])) (.refl s) _ (.tup q1 q2)
          · exact h _ _ _ (e _ rfl) (Gb.alloc s sb hp) _ (R.newT (s.free hp) (q2.append p2))
    · exact (nb (if_neg hc)).elim
theorem l_cat : Lift2L K ca (rCatR K) D.cat := by
  intro G H v w x y Q s rv rw' nb h
  cases x <;> try exact (nb rfl).elim
  cases y <;> try exact (nb rfl).elim
  rename_i a b
  by_cases hc : a.length + b.length ≤ 100000
  · cases rv with
    | lst q1 q2 =>
      cases rw' with
      | lst p1 p2 => exact ⟨_, _, _, _, rfl, rfl, Same.sqL s q1, Same.sqL s p1, sz' (by rw [q2.length, p2.length]; exact hc), fun p hp => h _ p _ (if_pos hc) hp (q2.append p2)⟩
  · exact (nb (if_neg hc)).elim
/-! ### comparisons -/
mutual
def D.eqv : D → D → Bool
  | .non, .non => true
  | .bl a, .bl b => a == b
  | .bl a, .int j => (if a then 1 else 0) == j
  | .int i, .bl b => i == (if b then 1 else 0)
  | .int i, .int j => i == j
  | .str x, .str y => x == y
  | .lst xs, .lst ys => D.eqvL xs ys
  | .tup xs, .tup ys => D.eqvL xs ys
  | _, _ => false
def D.eqvL : List D → List D → Bool
  | [], [] => true
  | x :: xs, y :: ys => D.eqv x y && D.eqvL xs ys
  | _, _ => false
end
mutual
def D.py : D → PyData
  | .non => .none
  | .bl b => .bool b
  | .int i => .int i
  | .str x => .str x
  | .lst xs => .list (D.pyL xs)
  | .tup xs => .tuple (D.pyL xs)
  | .ins _ _ => .none
  | .dic _ => .none
  | .any => .none
def D.pyL : List D → List PyData
  | [] => []
  | x :: xs => D.py x :: D.pyL xs
end
/-- plain data of a depth below n -/
def D.fit : Nat → D → Bool
  | _, .non => true
  | _, .bl _ => true
  | _, .int _ => true
  | _, .str x => PyData.strOk x
  | n + 1, .lst xs => xs.all (D.fit n)
  | n + 1, .tup xs => xs.all (D.fit n)
  | _, _ => false
theorem eqvAll_nil {ys : List PyData} : PyData.eqvAll [] ys = ys.isEmpty := by cases ys <;> simp [PyData.eqvAll]
mutual
theorem eqv_py : ∀ {n m : Nat} {x y : D}, D.fit n x = true → D.fit m y = true → PyData.eqv x.py y.py = D.eqv x y
  | n, m, .non, y, h1, h2 => by cases y <;> first | (cases m <;> simp [D.fit] at h2; done) | rfl | (simp [D.py, PyData.eqv, D.eqv])
  | n, m, .bl _, y, h1, h2 => by cases y <;> first | (cases m <;> simp [D.fit] at h2; done) | rfl | (simp [D.py, PyData.eqv, D.eqv])
  | n, m, .int _, y, h1, h2 => by cases y <;> first | (cases m <;> simp [D.fit] at h2; done) | rfl | (simp [D.py, PyData.eqv, D.eqv])
  | n, m, .str _, y, h1, h2 => by cases y <;> first | (cases m <;> simp [D.fit] at h2; done) | rfl | (simp [D.py, PyData.eqv, D.eqv])
  | n, m, .lst xs, .lst ys, h1, h2 => by
    cases n with
    | zero => simp [D.fit] at h1
    | succ n =>
      cases m with
      | zero => simp [D.fit] at h2
      | succ m =>
        simp only [D.py, PyData.eqv, D.eqv]
        exact eqvL_py (n := n) (m := m) (by simpa [D.fit] using h1) (by simpa [D.fit] using h2)
  | n, m, .tup xs, .tup ys, h1, h2 => by
    cases n with
    | zero => simp [D.fit] at h1
    | succ n =>
      cases m with
      | zero => simp [D.fit] at h2
      | succ m =>
        simp only [D.py, PyData.eqv, D.eqv]
        exact eqvL_py (n := n) (m := m) (by simpa [D.fit] using h1) (by simpa [D.fit] using h2)
  | n, m, .lst xs, .non, h1, h2 => by simp [D.py, PyData.eqv, D.eqv]
  | n, m, .lst xs, .bl _, h1, h2 => by simp [D.py, PyData.eqv, D.eqv]
  | n, m, .lst xs, .int _, h1, h2 => by simp [D.py, PyData.eqv, D.eqv]
  | n, m, .lst xs, .str _, h1, h2 => by simp [D.py, PyData.eqv, D.eqv]
  | n, m, .lst xs, .tup _, h1, h2 => by simp [D.py, PyData.eqv, D.eqv]
  | n, m, .lst xs, .ins _ _, h1, h2 => by cases m <;> simp [D.fit] at h2
  | n, m, .lst xs, .dic _, h1, h2 => by cases m <;> simp [D.fit] at h2
  | n, m, .lst xs, .any, h1, h2 => by cases m <;> simp [D.fit] at h2
  | n, m, .tup xs, .non, h1, h2 => by simp [D.py, PyData.eqv, D.eqv]
  | n, m, .tup xs, .bl _, h1, h2 => by simp [D.py, PyData.eqv, D.eqv]
  | n, m, .tup xs, .int _, h1, h2 => by simp [D.py, PyData.eqv, D.eqv]
  | n, m, .tup xs, .str _, h1, h2 => by simp [D.py, PyData.eqv, D.eqv]
  | n, m, .tup xs, .lst _, h1, h2 => by simp [D.py, PyData.eqv, D.eqv]
  | n, m, .tup xs, .ins _ _, h1, h2 => by cases m <;> simp [D.fit] at h2
  | n, m, .tup xs, .dic _, h1, h2 => by cases m <;> simp [D.fit] at h2
  | n, m, .tup xs, .any, h1, h2 => by cases m <;> simp [D.fit] at h2
  | n, m, .ins _ _, y, h1, h2 => by cases n <;> simp [D.fit] at h1
  | n, m, .dic _, y, h1, h2 => by cases n <;> simp [D.fit] at h1
  | n, m, .any, y, h1, h2 => by cases n <;> simp [D.fit] at h1
theorem eqvL_py : ∀ {n m : Nat} {xs ys : List D}, (∀ x ∈ xs, D.fit n x = true) → (∀ y ∈ ys, D.fit m y = true) → PyData.eqvAll (D.pyL xs) (D.pyL ys) = D.eqvL xs ys
  | n, m, [], [], h1, h2 => by simp [D.pyL, PyData.eqvAll, D.eqvL]
  | n, m, [], y :: ys, h1, h2 => by simp [D.pyL, PyData.eqvAll, D.eqvL]
  | n, m, x :: xs, [], h1, h2 => by simp [D.pyL, PyData.eqvAll, D.eqvL]
  | n, m, x :: xs, y :: ys, h1, h2 => by
    simp only [D.pyL, PyData.eqvAll, D.eqvL]
    rw [eqv_py (h1 x List.mem_cons_self) (h2 y List.mem_cons_self), eqvL_py (fun z hz => h1 z (List.mem_cons_of_mem _ hz)) (fun z hz => h2 z (List.mem_cons_of_mem _ hz))]
end
mutual
theorem fit_lay : ∀ {n : Nat} {x : D}, D.fit n x = true → x.py.canLay0 = true ∧ x.py.depth ≤ n
  | n, .non, h => by simp [D.py, PyData.canLay0, PyData.depth]
  | n, .bl _, h => by simp [D.py, PyData.canLay0, PyData.depth]
  | n, .int _, h => by simp [D.py, PyData.canLay0, PyData.depth]
  | n, .str z, h => by
    have h' : PyData.strOk z = true := by cases n <;> simpa [D.fit] using h
    simp [D.py, PyData.canLay0, PyData.depth, h']
  | 0, .lst xs, h => by simp [D.fit] at h
  | n + 1, .lst xs, h => by
    have q := fitL_lay (n := n) (xs := xs) (by simpa [D.fit] using h)
    simp only [D.py, PyData.canLay0, PyData.depth]
    exact ⟨q.1, by have := q.2; omega⟩
  | 0, .tup xs, h => by simp [D.fit] at h
  | n + 1, .tup xs, h => by
    have q := fitL_lay (n := n) (xs := xs) (by simpa [D.fit] using h)
    simp only [D.py, PyData.canLay0, PyData.depth]
    exact ⟨q.1, by have := q.2; omega⟩
  | n, .ins _ _, h => by cases n <;> simp [D.fit] at h
  | n, .dic _, h => by cases n <;> simp [D.fit] at h
  | n, .any, h => by cases n <;> simp [D.fit] at h
theorem fitL_lay : ∀ {n : Nat} {xs : List D}, (∀ x ∈ xs, D.fit n x = true) → PyData.canLayAll0 (D.pyL xs) = true ∧ PyData.depthAll (D.pyL xs) ≤ n
  | n, [], h => by simp [D.pyL, PyData.canLayAll0, PyData.depthAll]
  | n, x :: xs, h => by
    have q1 := fit_lay (h x List.mem_cons_self)
    have q2 := fitL_lay (n := n) (xs := xs) fun z hz => h z (List.mem_cons_of_mem _ hz)
    simp only [D.pyL, PyData.canLayAll0, PyData.depthAll, q1.1, q2.1, Bool.and_self, true_and]
    have := q1.2
    have := q2.2
    omega
end
theorem fit_shaped {n : Nat} {x : D} (h : D.fit n x = true) (hn : n ≤ 64) : SeqAt.shaped x.py = true := by
  have q := fit_lay h
  unfold SeqAt.shaped
  rw [q.1, Bool.true_and]
  exact decide_eq_true (by omega)
mutual
theorem R.dp {G H : Hp} (s : Same G H) : ∀ {n : Nat} {x : D} {v : V}, D.fit n x = true → R K ca G v x → Dp K H v x.py
  | n, .non, _, h, r => by cases r; exact .non
  | n, .bl _, _, h, r => by cases r; exact .bl _
  | n, .int _, _, h, r => by cases r; exact .int _
  | n, .str _, _, h, r => by cases r; exact .str _
  | 0, .lst xs, _, h, r => by simp [D.fit] at h
  | n + 1, .lst xs, _, h, r => by
    cases r with
    | lst q1 q2 => exact .lst (Same.sqL s q1) (RL.dp s (n := n) (by simpa [D.fit] using h) q2)
  | 0, .tup xs, _, h, r => by simp [D.fit] at h
  | n + 1, .tup xs, _, h, r => by
    cases r with
    | tup q1 q2 => exact .tup (Same.sqT s q1) (RL.dp s (n := n) (by simpa [D.fit] using h) q2)
  | n, .ins _ _, _, h, r => by cases n <;> simp [D.fit] at h
  | n, .dic _, _, h, r => by cases n <;> simp [D.fit] at h
  | n, .any, _, h, r => by cases n <;> simp [D.fit] at h
theorem RL.dp {G H : Hp} (s : Same G H) : ∀ {n : Nat} {xs : List D} {vs : List V}, (∀ x ∈ xs, D.fit n x = true) → RL K ca G vs xs → DpAll K H vs (D.pyL xs)
  | n, [], _, h, r => by cases r; exact .nil
  | n, x :: xs, _, h, r => by
    cases r with
    | cons r1 r2 => exact .cons (R.dp s (h x List.mem_cons_self) r1) (RL.dp s (fun z hz => h z (List.mem_cons_of_mem _ hz)) r2)
end
/-- two scalars -/
def D.scal : D → D → Bool
  | .non, .non => true | .non, .int _ => true | .int _, .non => true | .non, .bl _ => true | .bl _, .non => true | .non, .str _ => true | .str _, .non => true
  | .int _, .int _ => true | .bl _, .bl _ => true | .str _, .str _ => true
  | .int _, .str _ => true | .str _, .int _ => true | .bl _, .str _ => true | .str _, .bl _ => true
  | _, _ => false
/-- == -/
def D.eqB (x y : D) : Res Bool := if (D.scal x y || (D.fit 20 x && D.fit 20 y)) = true then .ok (D.eqv x y) else .bug
def D.eq (x y : D) : Res D := D.eqB x y >>= fun b => .ok (.bl b)
def D.ne (x y : D) : Res D := D.eqB x y >>= fun b => .ok (.bl (!b))
@[simp] theorem eqB_int (a b : Int) : D.eqB (.int a) (.int b) = .ok (a == b) := rfl
@[simp] theorem eqB_str (a b : Str) : D.eqB (.str a) (.str b) = .ok (a == b) := rfl
@[simp] theorem eqB_bl (a b : Bool) : D.eqB (.bl a) (.bl b) = .ok (a == b) := rfl
@[simp] theorem eq_int (a b : Int) : D.eq (.int a) (.int b) = .ok (.bl (a == b)) := rfl
@[simp] theorem ne_int (a b : Int) : D.ne (.int a) (.int b) = .ok (.bl (!(a == b))) := rfl
@[simp] theorem eq_str (a b : Str) : D.eq (.str a) (.str b) = .ok (.bl (a == b)) := rfl
@[simp] theorem ne_str (a b : Str) : D.ne (.str a) (.str b) = .ok (.bl (!(a == b))) := rfl
@[simp] theorem eq_bl (a b : Bool) : D.eq (.bl a) (.bl b) = .ok (.bl (a == b)) := rfl
@[simp] theorem ne_bl (a b : Bool) : D.ne (.bl a) (.bl b) = .ok (.bl (!(a == b))) := rfl
theorem scal_of {G : Hp} {x y : D} {v w : V} (h : D.scal x y = true) (rv : R K ca G v x) (rw' : R K ca G w y) : L2.scal v w = true ∧ decide (v = w) = D.eqv x y := by
  cases rv <;> cases rw' <;> first
    | (simp [D.scal] at h; done)
    | (refine ⟨rfl, ?_⟩; simp [D.eqv]; done)
    | (refine ⟨rfl, ?_⟩; simp [D.eqv]; exact (Bool.beq_eq_decide_eq _ _).symm)
def rEqA (K : PySem.W.Frag) : R2 := fun x y H Q => rEq x y H Q ∨ rEqD K x y H Q
def rNeA (K : PySem.W.Frag) : R2 := fun x y H Q => rNe x y H Q ∨ rNeD K x y H Q
theorem op_eqA (hu : X.A.units + 64 < cLine) : OpR X (compareOp .Eq) (rEqA X.K) := op_eq.or (op_eqD hu)
theorem op_neA (hu : X.A.units + 64 < cLine) : OpR X (compareOp .NotEq) (rNeA X.K) := op_ne.or (op_neD hu)
theorem eqB_ne_bug {x y : D} {k : Bool → Res D} (nb : (D.eqB x y >>= k) ≠ .bug) : (D.scal x y = true ∨ (D.fit 20 x = true ∧ D.fit 20 y = true)) ∧ D.eqB x y = .ok (D.eqv x y) := by
  by_cases hc : (D.scal x y || (D.fit 20 x && D.fit 20 y)) = true
  · refine ⟨?_, if_pos hc⟩
    rcases Bool.or_eq_true_iff.mp hc with q | q
    · exact .inl q
    · exact .inr (Bool.and_eq_true_iff.mp q)
  · refine (nb ?_).elim
    unfold D.eqB
    rw [if_neg hc]
    rfl
theorem l_eq : Lift2 K ca (rEqA K) D.eq := by
  intro Hb G H v w x y Q sb s rv rw' nb h
  obtain ⟨hc, e⟩ := eqB_ne_bug nb
  have e2 : D.eq x y = .ok (.bl (D.eqv x y)) := by unfold D.eq; rw [e]; rfl
  rcases hc with hc | ⟨h1, h2⟩
  · obtain ⟨q1, q2⟩ := scal_of hc rv rw'
    refine .inl ⟨q1, ?_⟩
    rw [q2]
    exact h _ _ _ e2 (.refl s) _ (.bl _)
  · refine .inr ⟨_, _, R.dp s h1 rv, R.dp s h2 rw', fit_shaped h1 (by decide), fit_shaped h2 (by decide), ?_⟩
    rw [eqv_py h1 h2]
    exact h _ _ _ e2 (.refl s) _ (.bl _)
theorem l_ne : Lift2 K ca (rNeA K) D.ne := by
  intro Hb G H v w x y Q sb s rv rw' nb h
  obtain ⟨hc, e⟩ := eqB_ne_bug nb
  have e2 : D.ne x y = .ok (.bl (!D.eqv x y)) := by unfold D.ne; rw [e]; rfl
  rcases hc with hc | ⟨h1, h2⟩
  · obtain ⟨q1, q2⟩ := scal_of hc rv rw'
    refine .inl ⟨q1, ?_⟩
    rw [q2]
    exact h _ _ _ e2 (.refl s) _ (.bl _)
  · refine .inr ⟨_, _, R.dp s h1 rv, R.dp s h2 rw', fit_shaped h1 (by decide), fit_shaped h2 (by decide), ?_⟩
    rw [eqv_py h1 h2]
    exact h _ _ _ e2 (.refl s) _ (.bl _)
/-- order of ints -/
def D.cmpI (p : Int → Int → Bool) : D → D → Res D
  | .int a, .int b => .ok (.bl (p a b))
  | _, _ => .bug
def D.lt : D → D → Res D := D.cmpI fun i j => decide (i < j)
def D.le : D → D → Res D := D.cmpI fun i j => decide (i ≤ j)
def D.gt : D → D → Res D := D.cmpI fun i j => decide (j < i)
def D.ge : D → D → Res D := D.cmpI fun i j => decide (j ≤ i)
@[simp] theorem lt_int' (a b : Int) : D.lt (.int a) (.int b) = .ok (.bl (decide (a < b))) := rfl
@[simp] theorem le_int' (a b : Int) : D.le (.int a) (.int b) = .ok (.bl (decide (a ≤ b))) := rfl
@[simp] theorem gt_int' (a b : Int) : D.gt (.int a) (.int b) = .ok (.bl (decide (b < a))) := rfl
@[simp] theorem ge_int' (a b : Int) : D.ge (.int a) (.int b) = .ok (.bl (decide (b ≤ a))) := rfl
theorem l_cmpI {p : Int → Int → Bool} : Lift2 K ca (rI0 fun i j => .bl (p i j)) (D.cmpI p) := by
  intro Hb G H v w x y Q sb s rv rw' nb h
  cases x <;> try exact (nb rfl).elim
  cases y <;> try exact (nb rfl).elim
  cases rv; cases rw'
  exact ⟨_, _, rfl, rfl, fin2 s h rfl (.bl _)⟩
/-- is None -/
def D.isN : D → D → Res D
  | .non, .non => .ok (.bl true)
  | .any, .non => .bug
  | _, .non => .ok (.bl false)
  | _, _ => .bug
def D.notN : D → D → Res D
  | .non, .non => .ok (.bl false)
  | .any, .non => .bug
  | _, .non => .ok (.bl true)
  | _, _ => .bug
theorem l_isN : Lift2 K ca (fun x y H Q => y = .non ∧ Q (.bl (decide (x = .non))) H) D.isN := by
  intro Hb G H v w x y Q sb s rv rw' nb h
  have hy : y = .non := by
    cases y <;> first | rfl | exact (nb (by cases x <;> rfl)).elim
  subst hy
  cases rw'
  refine ⟨rfl, ?_⟩
  cases rv <;> first
    | exact (nb rfl).elim
    | exact fin2 s h rfl (.bl _)
    | (rw [decide_eq_false (by intro z; cases z)]; exact fin2 s h rfl (.bl _))
    | (rw [decide_eq_true rfl]; exact fin2 s h rfl (.bl _))
theorem l_notN : Lift2 K ca (fun x y H Q => y = .non ∧ Q (.bl (!decide (x = .non))) H) D.notN := by
  intro Hb G H v w x y Q sb s rv rw' nb h
  have hy : y = .non := by
    cases y <;> first | rfl | exact (nb (by cases x <;> rfl)).elim
  subst hy
  cases rw'
  refine ⟨rfl, ?_⟩
  cases rv <;> first
    | exact (nb rfl).elim
    | exact fin2 s h rfl (.bl _)
    | (rw [decide_eq_false (by intro z; cases z)]; exact fin2 s h rfl (.bl _))
    | (rw [decide_eq_true rfl]; exact fin2 s h rfl (.bl _))
/-- in: a sign in a text, a flat thing in a list or tuple of such -/
def D.flat : D → Bool
  | .non => true | .bl _ => true | .int _ => true | .str _ => true | _ => false
def D.has (x : D) : D → Res Bool
  | .str z => match x with
    | .str ⟨⟨[c]⟩⟩ => .ok (decide (c ∈ z.cps.toList))
    | _ => .bug
  | .lst xs => if (D.flat x && xs.all D.flat) = true then .ok (xs.any fun y => D.eqv y x) else if (D.fit 19 x && D.fit 20 (.lst xs)) = true then .ok (xs.any fun y => D.eqv y x) else .bug
  | .tup xs => if (D.flat x && xs.all D.flat) = true then .ok (xs.any fun y => D.eqv y x) else .bug
  | _ => .bug
def D.isin (x y : D) : Res D := D.has x y >>= fun b => .ok (.bl b)
def D.notin (x y : D) : Res D := D.has x y >>= fun b => .ok (.bl (!b))
theorem flat_of {G : Hp} {x : D} {v : V} (h : D.flat x = true) (r : R K ca G v x) : flatV v = true := by cases r <;> first | rfl | (simp [D.flat] at h)
theorem flatL_of {G : Hp} : ∀ {xs : List D} {vs : List V}, xs.all D.flat = true → RL K ca G vs xs → vs.all flatV = true
  | [], _, h, r => by cases r; rfl
  | x :: xs, _, h, r => by
    cases r with
    | cons r1 r2 =>
      rw [List.all_cons, Bool.and_eq_true] at h ⊢
      exact ⟨flat_of h.1 r1, flatL_of h.2 r2⟩
theorem eqv_of {G : Hp} {x y : D} {v w : V} (hx : D.flat x = true) (hy : D.flat y = true) (rv : R K ca G v x) (rw' : R K ca G w y) : eqV v w = D.eqv x y := by
  cases rv <;> cases rw' <;> first | rfl | (simp [D.flat] at hx; done) | (simp [D.flat] at hy; done) | (simp [eqV, D.eqv]; done)
theorem inV_of {G : Hp} {x : D} {v : V} (hx : D.flat x = true) (rv : R K ca G v x) : ∀ {xs : List D} {vs : List V}, xs.all D.flat = true → RL K ca G vs xs → inV v vs = xs.any fun y => D.eqv y x
  | [], _, h, r => by cases r; rfl
  | y :: ys, _, h, r => by
    cases r with
    | cons r1 r2 =>
      rw [List.all_cons, Bool.and_eq_true] at h
      have ih := inV_of hx rv h.2 r2
      unfold inV at ih ⊢
      rw [List.any_cons, List.any_cons, ih, eqv_of h.1 hx r1 rv]
def rInE (K : PySem.W.Frag) : Bool → R2
  | true => rNotInD K
  | false => rInD K
def rInA (K : PySem.W.Frag) (neg : Bool) : R2 := fun x y H Q => (∃ (c : Nat) (z : Str), x = .str ⟨#[c]⟩ ∧ y = .str z ∧ Q (.bl (if neg then !decide (c ∈ z.cps.toList) else decide (c ∈ z.cps.toList))) H) ∨ rIn K neg x y H Q ∨ rInE K neg x y H Q
theorem op_inA {k : Nat} (hr : Room k X.A) : OpR X (compareOp .In) (rInA X.K false) := op_in_sign.or (op_in_seq.or (op_inD (by have := hr.un; omega)))
theorem op_notinA {k : Nat} (hr : Room k X.A) : OpR X (compareOp .NotIn) (rInA X.K true) := op_notIn_sign.or (op_notIn_seq.or (op_notInD (by have := hr.un; omega)))
theorem any_py {x : D} {n : Nat} (hx : D.fit n x = true) : ∀ {m : Nat} {xs : List D}, (∀ z ∈ xs, D.fit m z = true) → (D.pyL xs).any (fun z => PyData.eqv z x.py) = xs.any fun y => D.eqv y x
  | m, [], _ => rfl
  | m, y :: ys, h => by
    show (PyData.eqv y.py x.py || (D.pyL ys).any _) = _
    rw [eqv_py (h y List.mem_cons_self) hx, any_py hx fun z hz => h z (List.mem_cons_of_mem _ hz)]
    rfl
theorem l_inG {neg : Bool} {f : D → D → Res D} (hf : ∀ x y, f x y = (D.has x y >>= fun b => .ok (.bl (if neg then !b else b)))) : Lift2 K ca (rInA K neg) f := by
  intro Hb G H v w x y Q sb s rv rw' nb h
  rw [hf] at nb
  have key : ∀ b, D.has x y = .ok b → Q (.bl (if neg then !b else b)) H := fun b e => h _ _ _ (by rw [hf, e]; rfl) (.refl s) _ (.bl _)
  have nb' : D.has x y ≠ .bug := fun e => nb (by rw [e]; rfl)
  cases y with
  | str z =>
    cases rw'
    cases x with
    | str c =>
      cases rv
      obtain ⟨⟨l⟩⟩ := c
      match l, nb', key with
      | [c], nb', key => exact .inl ⟨c, z, rfl, rfl, key _ rfl⟩
      | [], nb', key => exact (nb' rfl).elim
      | _ :: _ :: _, nb', key => exact (nb' rfl).elim
    | _ => exact (nb' rfl).elim
  | lst xs =>
    by_cases hc : (D.flat x && xs.all D.flat) = true
    · have hc' := Bool.and_eq_true_iff.mp hc
      cases rw' with
      | lst q1 q2 =>
        refine .inr (.inl ⟨_, _, rfl, .inl (Same.sqL s q1), flat_of hc'.1 rv, flatL_of hc'.2 q2, ?_⟩)
        rw [inV_of hc'.1 rv hc'.2 q2]
        exact key _ (if_pos hc)
    · by_cases hd : (D.fit 19 x && D.fit 20 (.lst xs)) = true
      · have hd' := Bool.and_eq_true_iff.mp hd
        have e : D.has x (.lst xs) = .ok (xs.any fun y => D.eqv y x) := (if_neg hc).trans (if_pos hd)
        have k2 := key _ e
        have d1 := R.dp s hd'.1 rv
        have d2 := R.dp s hd'.2 rw'
        have s1 := fit_shaped hd'.1 (by decide)
        have s2 := fit_shaped hd'.2 (by decide)
        have a := any_py hd'.1 (m := 19) (xs := xs) (by simpa [D.fit] using hd'.2)
        refine .inr (.inr ?_)
        cases neg with
        | true => exact ⟨_, _, d1, d2, s1, s2, by rw [a]; exact k2⟩
        | false => exact ⟨_, _, d1, d2, s1, s2, by rw [a]; exact k2⟩
      · exact (nb' ((if_neg hc).trans (if_neg hd))).elim
  | tup xs =>
    by_cases hc : (D.flat x && xs.all D.flat) = true
    · have hc' := Bool.and_eq_true_iff.mp hc
      cases rw' with
      | tup q1 q2 =>
        refine .inr (.inl ⟨_, _, rfl, .inr (Same.sqT s q1), flat_of hc'.1 rv, flatL_of hc'.2 q2, ?_⟩)
        rw [inV_of hc'.1 rv hc'.2 q2]
        exact key _ (if_pos hc)
    · exact (nb' (if_neg hc)).elim
  | _ => exact (nb' rfl).elim
theorem l_in : Lift2 K ca (rInA K false) D.isin := l_inG (f := D.isin) (neg := false) fun _ _ => rfl
theorem l_notin : Lift2 K ca (rInA K true) D.notin := l_inG (f := D.notin) (neg := true) fun _ _ => rfl
end
end Lk
namespace Lk
open PySem PySem.Spec PyProof.Rows L2
@[simp] theorem bind_assoc' {α β γ : Type} (m : Res α) (f : α → Res β) (g : β → Res γ) : ((m >>= f) >>= g) = (m >>= fun a => f a >>= g) := by cases m <;> rfl
theorem bind_ne {α β : Type} {m : Res α} {f : α → Res β} (h : (m >>= f) ≠ .bug) : m ≠ .bug := fun e => h (by rw [e]; rfl)
def Res.opt {α : Type} : Option α → Res α
  | some a => .ok a
  | none => .bug
@[simp] theorem opt_some {α : Type} (a : α) : Res.opt (some a) = .ok a := rfl
@[simp] theorem opt_none {α : Type} : Res.opt (none : Option α) = .bug := rfl
section
variable {K : PySem.W.Frag} {ca : Nat → Addr} {G G' H H' : Hp}
theorem RL.atI {ds : List D} {vs : List V} {i : Int} {d : D} (h : RL K ca G vs ds) (e : L2.atI ds i = some d) : ∃ v, L2.atI vs i = some v ∧ R K ca G v d := by
  unfold L2.atI at e ⊢
  rw [h.length]
  cases q : ixN ds.length i with
  | none => rw [q] at e; cases e
  | some j =>
    rw [q] at e
    exact h.get e
/-! ### subscripts -/
def D.item : D → D → Res D
  | .lst xs, .int i => Res.opt (L2.atI xs i)
  | .tup xs, .int i => Res.opt (L2.atI xs i)
  | .str s, .int i => if s.length ≤ 100000 then (match L2.atI s.cps.toList i with | some c => .ok (.str ⟨#[c]⟩) | none => .bug) else .bug
  | _, _ => .bug
theorem l_item : Lift2 K ca (rIx K) D.item := by
  intro Hb G H v w x y Q sb s rv rw' nb h
  have hy : ∃ i, y = .int i := by
    cases y with
    | int i => exact ⟨i, rfl⟩
    | _ => exact (nb (by cases x <;> rfl)).elim
  obtain ⟨i, rfl⟩ := hy
  cases rw'
  cases x with
  | str z =>
    cases rv
    by_cases hz : z.length ≤ 100000
    · cases e : L2.atI z.cps.toList i with
      | none => exact (nb (by simp only [D.item, if_pos hz, e])).elim
      | some c => exact .inr (.inr ⟨_, _, _, rfl, rfl, sz' hz, e, h _ _ _ (by simp only [D.item, if_pos hz, e]) (.refl s) _ (.str _)⟩)
    · exact (nb (if_neg hz)).elim
  | lst xs =>
    cases rv with
    | lst q1 q2 =>
      cases e : L2.atI xs i with
      | none => exact (nb (by simp only [D.item, e, opt_none])).elim
      | some d =>
        obtain ⟨v, e1, r1⟩ := q2.atI e
        exact .inl ⟨_, _, _, _, rfl, rfl, Same.sqL s q1, e1, h _ _ _ (by simp only [D.item, e, opt_some]) (.refl s) _ r1⟩
  | tup xs =>
    cases rv with
    | tup q1 q2 =>
      cases e : L2.atI xs i with
      | none => exact (nb (by simp only [D.item, e, opt_none])).elim
      | some d =>
        obtain ⟨v, e1, r1⟩ := q2.atI e
        exact .inr (.inl ⟨_, _, _, _, rfl, rfl, Same.sqT s q1, e1, h _ _ _ (by simp only [D.item, e, opt_some]) (.refl s) _ r1⟩)
  | _ => exact (nb rfl).elim
/-! ### slices -/
def cutD {α : Type} (xs : List α) (lo hi : Option Int) : List α := (xs.drop (HT.sIx xs.length 0 lo)).take (HT.sIx xs.length xs.length hi - HT.sIx xs.length 0 lo)
theorem RL.cut {ds : List D} {vs : List V} {lo hi : Option Int} (h : RL K ca G vs ds) : RL K ca G (cutV vs lo hi) (cutD ds lo hi) := by
  unfold cutV cutD
  rw [h.length]
  exact (h.drop _).take _
def D.slice (x : D) (lo hi : Option Int) : Res D := match x with
  | .lst xs => .ok (.lst (cutD xs lo hi))
  | .tup xs => .ok (.tup (cutD xs lo hi))
  | .str z => if z.length ≤ 100000 then .ok (.str (cutS z lo hi)) else .bug
  | _ => .bug
def D.sliceL (x : D) (lo hi : Option Int) : Res (List D) := match x with
  | .lst xs => .ok (cutD xs lo hi)
  | _ => .bug
end
section
variable {X : Cx} {ca : Nat → Addr} {W : WX} {ρ : Env} {a b c e o : Expr} {es : List Expr} {pos : Pos} {ma mb mc m : Res D} {mas : Res (List D)} {i : Nat}
theorem e_item (ha : PE X a (tD X.K ca W ρ ma)) (hb : PE X b (tD X.K ca W ρ mb)) (hs : PlainIx b := by intro _ _; rfl) : PE X (.Subscript a b pos) (tD X.K ca W ρ (ma >>= fun x => mb >>= fun y => D.item x y)) :=
  PE.of (pe_ix ix_seq ha hb hs) fun σ H Q ⟨Hb, G, h⟩ => ⟨Hb, G, h.cut fun x G1 H1 _ g1 h1 v rv => ⟨Hb, G1, h1.cut fun y G2 H2 _ g2 h2 w rw' =>
    l_item h2.sb h2.sub (rv.mono g2.g) rw' h2.nb fun z G' H' ez g' v' r' => h2.ok z ez G' H' g' v' r'⟩⟩
def D.toI : D → Res (Option Int)
  | .int i => .ok (some i)
  | _ => .bug
@[simp] theorem toI_int (i : Int) : D.toI (.int i) = .ok (some i) := rfl
theorem p_none : PO X none (tPart' X.K ca W ρ (.ok none)) := ⟨fun pins s σ H Q I h => po_none.run pins s σ H Q I (let ⟨Hb, G, h⟩ := h; h.done)⟩
theorem p_some (ha : PE X e (tD X.K ca W ρ ma)) : PO X (some e) (tPart' X.K ca W ρ (ma >>= D.toI)) := ⟨fun pins s σ H Q I h => (po_some ha).run pins s σ H Q I (let ⟨Hb, G, h⟩ := h; ⟨Hb, G, h.cut fun x G1 H1 _ g1 h1 v rv => by
  cases x with
  | int k =>
    cases rv
    exact ⟨k, rfl, h1.done⟩
  | _ => exact (h1.nb rfl).elim⟩)⟩
variable {lo hi : Option Expr} {ml mh : Res (Option Int)} {p2 : Pos}
theorem e_slice (ha : PE X e (tD X.K ca W ρ ma)) (hl : PO X lo (tPart' X.K ca W ρ ml)) (hh : PO X hi (tPart' X.K ca W ρ mh)) : PE X (.Subscript e (.Slice lo hi none p2) pos) (tD X.K ca W ρ (ma >>= fun x => ml >>= fun l => mh >>= fun h => D.slice x l h)) :=
  PE.of (pe_slice (sl_list.or (sl_tupA.or sl_str)) ha hl hh) fun σ H Q ⟨Hb, G, h⟩ => ⟨Hb, G, h.cut fun x G1 H1 _ g1 h1 v rv => ⟨Hb, G1, h1.cut fun l G2 H2 _ g2 h2 => ⟨Hb, G2, h2.cut fun u G3 H3 _ g3 h3 => by
    have rv3 := rv.mono (g2.g.trans g3.g)
    cases x with
    | lst xs =>
      cases rv3 with
      | lst q1 q2 => exact .inl ⟨_, _, rfl, Same.sqL h3.sub q1, fun p hp => h3.go (Gb.alloc h3.sub h3.sb hp) _ (R.newL (h3.sub.free hp) q2.cut)⟩
    | tup xs =>
      cases rv3 with
      | tup q1 q2 =>
        refine .inr (.inl ⟨_, _, rfl, Same.sqT h3.sub q1, fun hw => ?_, fun _ p hp => h3.go (Gb.alloc h3.sub h3.sb hp) _ (R.newT (h3.sub.free hp) q2.cut)⟩)
        have ew : cutD xs l u = xs := by
          unfold cutD
          rw [← q2.length, hw.1, hw.2, List.drop_zero, q2.length, Nat.sub_zero, List.take_length]
        refine h3.done _ ?_
        rw [ew]
        exact .tup q1 q2
    | str z =>
      cases rv3
      by_cases hz : z.length ≤ 100000
      · exact .inr (.inr ⟨_, rfl, sz' hz, h3.ok _ (if_pos hz) _ _ (.refl h3.sub) _ (.str _)⟩)
      · exact (h3.nb (if_neg hz)).elim
    | _ => exact (h3.nb rfl).elim⟩⟩⟩
theorem e_sliceL (ha : PE X e (tD X.K ca W ρ ma)) (hl : PO X lo (tPart' X.K ca W ρ ml)) (hh : PO X hi (tPart' X.K ca W ρ mh)) : PE X (.Subscript e (.Slice lo hi none p2) pos) (tL X.K ca W ρ (ma >>= fun x => ml >>= fun l => mh >>= fun h => D.sliceL x l h)) :=
  PE.of (pe_slice sl_list ha hl hh) fun σ H Q ⟨Hb, G, h⟩ => ⟨Hb, G, h.cut fun x G1 H1 _ g1 h1 v rv => ⟨Hb, G1, h1.cut fun l G2 H2 _ g2 h2 => ⟨Hb, G2, h2.cut fun u G3 H3 _ g3 h3 => by
    have rv3 := rv.mono (g2.g.trans g3.g)
    cases x with
    | lst xs =>
      cases rv3 with
      | lst q1 q2 => exact ⟨_, _, rfl, Same.sqL h3.sub q1, fun p hp => h3.go (Gb.own h3.sub hp) p _ (h3.sb.free hp) (h3.sub.free hp) upd_same q2.cut⟩
    | _ => exact (h3.nb rfl).elim⟩⟩⟩
/-! ### attributes of what never changes -/
def D.attr (cs : List Nat) (f : Str) : D → Res D
  | .ins c fs => if cs.contains c = true then Res.opt (fs.lookup f) else .bug
  | _ => .bug
theorem RF.lookup {K : PySem.W.Frag} {G : Hp} {f : Str} {d : D} : ∀ {fs : List (Str × D)} {vs : List (Str × V)}, RF K ca G vs fs → fs.lookup f = some d → ∃ v, vs.lookup f = some v ∧ R K ca G v d
  | [], _, h, e => by simp [List.lookup] at e
  | (n, d0) :: fs, _, h, e => by
    cases h with
    | cons h1 h2 =>
      by_cases hn : (f == n) = true
      · rw [List.lookup_cons, hn] at e
        have e' : d0 = d := Option.some.inj e
        subst e'
        exact ⟨_, by rw [List.lookup_cons, hn], h1⟩
      · have hn' : (f == n) = false := by simpa using hn
        rw [List.lookup_cons, hn'] at e
        obtain ⟨v, q1, q2⟩ := RF.lookup h2 e
        exact ⟨v, by rw [List.lookup_cons, hn']; exact q1, q2⟩
theorem e_attr {cs : List Nat} {f : Str} (ha : PE X e (tD X.K ca W ρ ma)) (T : ∀ c, cs.contains c = true → Cls X.K (ca c) ∧ NoAttr X.K (ca c) f) (hb : attributeBase e f X.env (eval e X.env) = eval e X.env := by rfl) :
    PE X (.Attribute e f pos) (tD X.K ca W ρ (ma >>= fun x => D.attr cs f x)) :=
  PE.of (pe_fld ha hb) fun σ H Q ⟨Hb, G, h⟩ => ⟨Hb, G, h.cut fun x G1 H1 _ g1 h1 v rv => by
    cases x with
    | ins c fs =>
      by_cases hc : cs.contains c = true
      · cases rv with
        | ins q1 q2 =>
          cases e : fs.lookup f with
          | none => exact (h1.nb (by simp only [D.attr, if_pos hc, e, opt_none])).elim
          | some d =>
            obtain ⟨w, e1, r1⟩ := q2.lookup e
            exact ⟨_, _, _, _, w, rfl, h1.sub _ _ q1, (T c hc).1, (T c hc).2, e1, h1.ok d (by simp only [D.attr, if_pos hc, e, opt_some]) _ _ (.refl h1.sub) w r1⟩
      · exact (h1.nb (if_neg hc)).elim
    | _ => exact (h1.nb rfl).elim⟩
/-! ### built-ins -/
def D.len : List D → Res D
  | [.str z] => if z.length ≤ 100000 then .ok (.int z.length) else .bug
  | [.lst xs] => .ok (.int xs.length)
  | [.tup xs] => .ok (.int xs.length)
  | _ => .bug
@[simp] theorem len_lst (xs : List D) : D.len [.lst xs] = .ok (.int xs.length) := rfl
@[simp] theorem len_tup (xs : List D) : D.len [.tup xs] = .ok (.int xs.length) := rfl
def one {α : Type} (f : D → Res α) : List D → Res α
  | [x] => f x
  | _ => .bug
theorem RL.one {K : PySem.W.Frag} {G : Hp} {α : Type} {f : D → Res α} {xs : List D} {vs : List V} (nb : one f xs ≠ .bug) (h : RL K ca G vs xs) : ∃ x v, xs = [x] ∧ vs = [v] ∧ R K ca G v x := by
  match xs, nb with
  | [x], _ =>
    cases h with
    | cons h1 h2 =>
      cases h2
      exact ⟨x, _, rfl, rfl, h1⟩
  | [], nb => exact (nb rfl).elim
  | _ :: _ :: _, nb => exact (nb rfl).elim
theorem l_len {K : PySem.W.Frag} : LiftA K ca (fun xs H Q => ∃ x n, xs = [x] ∧ LenV K x H n ∧ Q (.int n) H) D.len := by
  intro Hb G H vs xs Q sb s r nb h
  match xs, nb, h with
  | [.str z], nb, h =>
    cases r with
    | cons r1 r2 =>
      cases r2; cases r1
      by_cases hz : z.length ≤ 100000
      · exact ⟨_, _, rfl, ⟨sz' hz, rfl⟩, h _ _ _ (if_pos hz) (.refl s) _ (.int _)⟩
      · exact (nb (if_neg hz)).elim
  | [.lst ys], nb, h =>
    cases r with
    | cons r1 r2 =>
      cases r2
      cases r1 with
      | lst q1 q2 => exact ⟨_, _, rfl, .inl ⟨_, Same.sqL s q1, rfl⟩, by rw [q2.length]; exact h _ _ _ rfl (.refl s) _ (.int _)⟩
  | [.tup ys], nb, h =>
    cases r with
    | cons r1 r2 =>
      cases r2
      cases r1 with
      | tup q1 q2 => exact ⟨_, _, rfl, .inr ⟨_, Same.sqT s q1, rfl⟩, by rw [q2.length]; exact h _ _ _ rfl (.refl s) _ (.int _)⟩
  | [], nb, h => exact (nb rfl).elim
  | .non :: _, nb, h => exact (nb rfl).elim
  | .bl _ :: _, nb, h => exact (nb rfl).elim
  | .int _ :: _, nb, h => exact (nb rfl).elim
  | .ins _ _ :: _, nb, h => exact (nb rfl).elim
  | .dic _ :: _, nb, h => exact (nb rfl).elim
  | .str _ :: _ :: _, nb, h => exact (nb rfl).elim
  | .lst _ :: _ :: _, nb, h => exact (nb rfl).elim
  | .tup _ :: _ :: _, nb, h => exact (nb rfl).elim
def two' {α : Type} (f : Int → Int → Res α) : List D → Res α
  | [.int a, .int b] => f a b
  | _ => .bug
@[simp] theorem two'_eq {α : Type} (f : Int → Int → Res α) (a b : Int) : two' f [.int a, .int b] = f a b := rfl
theorem RL.two' {K : PySem.W.Frag} {G : Hp} {α : Type} {f : Int → Int → Res α} {xs : List D} {vs : List V} (nb : two' f xs ≠ .bug) (h : RL K ca G vs xs) : ∃ a b, xs = [.int a, .int b] ∧ vs = [.int a, .int b] := by
  match xs, nb with
  | [.int a, .int b], _ =>
    cases h with
    | cons h1 h2 =>
      cases h2 with
      | cons h2 h3 =>
        cases h3; cases h1; cases h2
        exact ⟨a, b, rfl, rfl⟩
  | [], nb => exact (nb rfl).elim
  | [x], nb => cases x <;> exact (nb rfl).elim
  | [x, y], nb => cases x <;> first | exact (nb rfl).elim | (cases y <;> first | exact (nb rfl).elim | (cases h with | cons h1 h2 => cases h2 with | cons h2 h3 => cases h3; cases h1; cases h2; exact ⟨_, _, rfl, rfl⟩))
  | x :: y :: _ :: _, nb => cases x <;> first | exact (nb rfl).elim | (cases y <;> exact (nb rfl).elim)
def D.max2 : List D → Res D := Lk.two' fun a b => .ok (.int (if b > a then b else a))
def D.min2 : List D → Res D := Lk.two' fun a b => .ok (.int (if b < a then b else a))
@[simp] theorem max2_int (a b : Int) : D.max2 [.int a, .int b] = .ok (.int (if b > a then b else a)) := rfl
@[simp] theorem min2_int (a b : Int) : D.min2 [.int a, .int b] = .ok (.int (if b < a then b else a)) := rfl
theorem l_max2 {K : PySem.W.Frag} : LiftA K ca (fun xs H Q => ∃ i j, xs = [.int i, .int j] ∧ Q (.int (if j > i then j else i)) H) D.max2 := by
  intro Hb G H vs xs Q sb s r nb h
  obtain ⟨a, b, rfl, rfl⟩ := RL.two' nb r
  exact ⟨_, _, rfl, h _ _ _ rfl (.refl s) _ (.int _)⟩
theorem l_min2 {K : PySem.W.Frag} : LiftA K ca (fun xs H Q => ∃ i j, xs = [.int i, .int j] ∧ Q (.int (if j < i then j else i)) H) D.min2 := by
  intro Hb G H vs xs Q sb s r nb h
  obtain ⟨a, b, rfl, rfl⟩ := RL.two' nb r
  exact ⟨_, _, rfl, h _ _ _ rfl (.refl s) _ (.int _)⟩
/-- the ints of a list -/
def D.ints : List D → Option (List Int)
  | [] => some []
  | .int i :: r => (D.ints r).map (i :: ·)
  | _ :: _ => none
@[simp] theorem ints_map : ∀ (ns : List Int), D.ints (ns.map D.int) = some ns
  | [] => rfl
  | n :: ns => by simp [D.ints, ints_map ns]
theorem ints_inv : ∀ {xs : List D} {ns : List Int}, D.ints xs = some ns → xs = ns.map D.int
  | [], _, h => by cases h; rfl
  | .int i :: r, ns, h => by
    simp only [D.ints, Option.map_eq_some_iff] at h
    obtain ⟨ms, h1, rfl⟩ := h
    rw [ints_inv h1]; rfl
  | .non :: _, _, h => by simp [D.ints] at h
  | .bl _ :: _, _, h => by simp [D.ints] at h
  | .str _ :: _, _, h => by simp [D.ints] at h
  | .lst _ :: _, _, h => by simp [D.ints] at h
  | .tup _ :: _, _, h => by simp [D.ints] at h
  | .ins _ _ :: _, _, h => by simp [D.ints] at h
  | .dic _ :: _, _, h => by simp [D.ints] at h
def D.sum : List D → Res D := one fun
  | .lst xs => (match D.ints xs with | some ns => .ok (.int ns.sum) | none => .bug)
  | _ => .bug
@[simp] theorem sum_ints (ns : List Int) : D.sum [.lst (ns.map D.int)] = .ok (.int ns.sum) := by simp [D.sum, one]
theorem l_sum {K : PySem.W.Frag} : LiftA K ca (rSum K) D.sum := by
  intro Hb G H vs xs Q sb s r nb h
  obtain ⟨x, v, rfl, rfl, r1⟩ := RL.one nb r
  cases x <;> try exact (nb rfl).elim
  rename_i ys
  cases e : D.ints ys with
  | none => exact (nb (by simp [D.sum, one, e])).elim
  | some ns =>
    have e' := ints_inv e
    subst e'
    cases r1 with
    | lst q1 q2 =>
      have e2 := q2.ints_inv
      subst e2
      exact ⟨_, ns, rfl, Same.sqL s q1, h _ _ _ (sum_ints ns) (.refl s) _ (.int _)⟩
def D.abs : List D → Res D := one fun
  | .int i => .ok (.int (if i < 0 then -i else i))
  | _ => .bug
def D.toInt : List D → Res D := one fun
  | .int i => .ok (.int i)
  | .bl b => .ok (.int (if b then 1 else 0))
  | .str z => if z.length ≤ 640 then (match PySem.intText? z with | some n => .ok (.int n) | none => .bug) else .bug
  | _ => .bug
theorem l_toInt {K : PySem.W.Frag} : LiftA K ca (fun xs H Q => ((∃ i, xs = [.int i] ∧ Q (.int i) H) ∨ ∃ k, xs = [.bl k] ∧ Q (.int (if k then 1 else 0)) H) ∨ ∃ a n, xs = [.str a] ∧ PySem.intText? a = some n ∧ a.length ≤ 640 ∧ Q (.int n) H) D.toInt := by
  intro Hb G H vs xs Q sb s r nb h
  obtain ⟨x, v, rfl, rfl, r1⟩ := RL.one nb r
  cases x <;> try exact (nb rfl).elim
  · cases r1; exact .inl (.inr ⟨_, rfl, h _ _ _ rfl (.refl s) _ (.int _)⟩)
  · cases r1; exact .inl (.inl ⟨_, rfl, h _ _ _ rfl (.refl s) _ (.int _)⟩)
  · rename_i z
    cases r1
    by_cases hz : z.length ≤ 640
    · cases e : PySem.intText? z with
      | none => exact (nb (by simp [D.toInt, one, hz, e])).elim
      | some n => exact .inr ⟨_, _, rfl, e, hz, h _ _ _ (by simp [D.toInt, one, hz, e]) (.refl s) _ (.int _)⟩
    · exact (nb (by simp [D.toInt, one, hz])).elim
theorem call_intA {X : Cx} : CallR X (.type "int") (fun xs H Q => ((∃ i, xs = [.int i] ∧ Q (.int i) H) ∨ ∃ k, xs = [.bl k] ∧ Q (.int (if k then 1 else 0)) H) ∨ ∃ a n, xs = [.str a] ∧ PySem.intText? a = some n ∧ a.length ≤ 640 ∧ Q (.int n) H) := call_int1.or call_int_str
def D.toStr : List D → Res D := one fun
  | .int i => if i.natAbs.log2 < 1920 then .ok (.str (toString i)) else .bug
  | _ => .bug
theorem l_toStr {K : PySem.W.Frag} : LiftA K ca (fun xs H Q => ∃ i, xs = [.int i] ∧ i.natAbs.log2 < 1920 ∧ Q (.str (toString i)) H) D.toStr := by
  intro Hb G H vs xs Q sb s r nb h
  obtain ⟨x, v, rfl, rfl, r1⟩ := RL.one nb r
  cases x <;> try exact (nb rfl).elim
  rename_i i
  cases r1
  by_cases hi : i.natAbs.log2 < 1920
  · exact ⟨_, rfl, hi, h _ _ _ (by simp [D.toStr, one, hi]) (.refl s) _ (.str _)⟩
  · exact (nb (by simp [D.toStr, one, hi])).elim
/-- list(x) -/
def D.toList : List D → Res (List D) := one fun
  | .lst xs => .ok xs
  | .tup xs => .ok xs
  | _ => .bug
@[simp] theorem toList_lst (xs : List D) : D.toList [.lst xs] = .ok xs := rfl
@[simp] theorem toList_tup (xs : List D) : D.toList [.tup xs] = .ok xs := rfl
theorem l_toList {K : PySem.W.Frag} : LiftAL K ca (fun xs H Q => ∃ p ys, xs = [.ref p] ∧ (SqL K H p ys ∨ SqT K H p ys) ∧ ∀ l, H l = none → Q (.ref l) (upd H l (.lst ys))) D.toList := by
  intro G H vs xs Q s r nb h
  obtain ⟨x, v, rfl, rfl, r1⟩ := RL.one nb r
  cases x <;> try exact (nb rfl).elim
  · cases r1 with
    | lst q1 q2 => exact ⟨_, _, rfl, .inl (Same.sqL s q1), fun l hl => h _ l _ rfl hl q2⟩
  · cases r1 with
    | tup q1 q2 => exact ⟨_, _, rfl, .inr (Same.sqT s q1), fun l hl => h _ l _ rfl hl q2⟩
def D.toTup : List D → Res D := one fun
  | .lst xs => .ok (.tup xs)
  | .tup xs => .ok (.tup xs)
  | _ => .bug
@[simp] theorem toTup_lst (xs : List D) : D.toTup [.lst xs] = .ok (.tup xs) := rfl
@[simp] theorem toTup_tup (xs : List D) : D.toTup [.tup xs] = .ok (.tup xs) := rfl
theorem l_toTup {K : PySem.W.Frag} : LiftA K ca (fun xs H Q => ∃ p ys, xs = [.ref p] ∧ ((SqL K H p ys ∧ ∀ l, H l = none → Q (.ref l) (upd H l (.tup ys))) ∨ (SqT K H p ys ∧ Q (.ref p) H))) D.toTup := by
  intro Hb G H vs xs Q sb s r nb h
  obtain ⟨x, v, rfl, rfl, r1⟩ := RL.one nb r
  cases x <;> try exact (nb rfl).elim
  · cases r1 with
    | lst q1 q2 => exact ⟨_, _, rfl, .inl ⟨Same.sqL s q1, fun l hl => h _ _ _ rfl (Gb.alloc s sb hl) _ (R.newT (s.free hl) q2)⟩⟩
  · cases r1 with
    | tup q1 q2 => exact ⟨_, _, rfl, .inr ⟨Same.sqT s q1, h _ _ _ rfl (.refl s) _ (.tup q1 q2)⟩⟩
/-- isinstance(x, T), T a built-in type -/
def D.isT (T : String) : D → Res D
  | .non => Res.opt ((kitB "NoneType" T).map D.bl)
  | .bl _ => Res.opt ((kitB "bool" T).map D.bl)
  | .int _ => Res.opt ((kitB "int" T).map D.bl)
  | .str _ => Res.opt ((kitB "str" T).map D.bl)
  | .lst _ => Res.opt ((kitB "list" T).map D.bl)
  | .tup _ => Res.opt ((kitB "tuple" T).map D.bl)
  | .ins _ _ => .bug
  | .dic _ => .bug
  | .any => .bug
theorem e_isT {n1 n2 : Str} {p1 p2 : Pos} {T : String} (ha : PE X e (tD X.K ca W ρ ma)) (hg : Gl X n1) (hm : X.mg n1 = none) (hv : bootBuiltins n1 = some (.builtin "isinstance")) (hg2 : Gl X n2) (hm2 : X.mg n2 = none) (hv2 : bootBuiltins n2 = some (.type T))
    (hn : n1 ≠ "__name__" := by decide) (hdb : (n1 == ("__debug__" : Str)) = false := by decide) (hn2 : n2 ≠ "__name__" := by decide) (hdb2 : (n2 == ("__debug__" : Str)) = false := by decide)
    (he : starEach [e, .Name n2 p2] X.env = (false, eval e X.env) :: starEach [.Name n2 p2] X.env := by rfl) (hpl : (backTo pos (starEach [.Name n2 p2] X.env)).any (·.1) = false := by rfl) (hs2 : starEach [.Name n2 p2] X.env = (false, eval (.Name n2 p2) X.env) :: starEach [] X.env := by rfl) :
    PE X (.Call (.Name n1 p1) [e, .Name n2 p2] [] pos) (tD X.K ca W ρ (ma >>= fun x => D.isT T x)) :=
  PE.of (pe_callB call_isi hg hm hv (pa_cons ha (pa_cons (pe_bltn (v := .ty T) hg2 hm2 hv2 rfl hn2 hdb2) pa_nil hs2) he) hn hdb he hpl) fun σ H Q ⟨Hb, G, h⟩ => ⟨Hb, G, h.cut fun x G1 H1 _ g1 h1 v rv => by
    have go : ∀ (t : String) (b : Bool), TyX X.K H1 v (.type t) → kitB t T = some b → Q (.bl b) H1 → rIsi X.K [v, .ty T] H1 Q := fun t b ty e q => ⟨v, .ty T, .type t, .type T, b, rfl, .ty T, ty, kit_ty e, q⟩
    have fin : ∀ (t : String), TyX X.K H1 v (.type t) → D.isT T x = Res.opt ((kitB t T).map D.bl) → rIsi X.K [v, .ty T] H1 Q := fun t ty ex => by
      cases e : kitB t T with
      | none => exact (h1.nb (by rw [ex, e]; rfl)).elim
      | some b => exact go t b ty e (h1.ok (.bl b) (by rw [ex, e]; rfl) _ _ (.refl h1.sub) _ (.bl b))
    cases x with
    | non => cases rv; exact fin _ (.base .non) rfl
    | bl b => cases rv; exact fin _ (.base (.bl b)) rfl
    | int i => cases rv; exact fin _ (.base (.int i)) rfl
    | str z => cases rv; exact fin _ (.base (.str z)) rfl
    | lst xs =>
      cases rv with
      | lst q1 q2 =>
        rcases Same.sqL h1.sub q1 with (z | ⟨o, z⟩) | ⟨o, its, n, z, zc, _⟩
        · exact fin _ (.base (.lst z)) rfl
        · exact fin _ (.base (.frz z)) rfl
        · exact fin _ (.kList z zc) rfl
    | tup xs =>
      cases rv with
      | tup q1 q2 =>
        rcases Same.sqT h1.sub q1 with (z | ⟨o, z⟩) | ⟨o, its, n, z, zc, _⟩
        · exact fin _ (.base (.tup z)) rfl
        · exact fin _ (.fTuple z) rfl
        · exact fin _ (.kTuple z zc) rfl
    | ins c fs => exact (h1.nb rfl).elim
    | dic fs => exact (h1.nb rfl).elim
    | any => exact (h1.nb rfl).elim⟩
end
end Lk
namespace Lk
open PySem PySem.Spec PyProof.Rows L2
/-- how a block ends: on, out of a loop, to its next turn, out of the def -/
inductive Out (S B T : Type) where
  | nx (s : S)
  | bk (b : B)
  | ct (b : B)
  | rt (r : T)
  | ra (c : Nat) (os : List O)
/-- what is known where something is raised: e always, emb where the owned things are told -/
structure EX where
  e : Env
  emb : List O → Env
/-- what a returned value is -/
abbrev RtP := Hp → Hp → V → AS → Prop
def rtO {T : Type} (K : PySem.W.Frag) (ca : Nat → Addr) (o : T → O) : T → RtP := fun r G H v g => Ow K ca G H v (o r) g ∧ ∀ x, g x → G x = none ∧ ∃ u, H x = some u
section
variable (K : PySem.W.Frag) (ca : Nat → Addr) {S B T : Type} (W : WX) (ρx : EX) (emb : S → Env) (embB : B → Env) (out : T → RtP)
structure So (D : Ends) (G H : Hp) (F : AS) (M : Res (Out S B T)) : Prop where
  nb : M ≠ .bug
  nx : ∀ s, M = .ok (.nx s) → ∀ σ' G' H' f', Evo G H F G' H' (All f') → EnvOk K ca G' H' σ' (emb s) f' → D.nx σ' H'
  bk : ∀ s, M = .ok (.bk s) → ∀ σ' G' H' f', Evo G H F G' H' (All f') → EnvOk K ca G' H' σ' (embB s) f' → D.bk σ' H'
  ct : ∀ s, M = .ok (.ct s) → ∀ σ' G' H' f', Evo G H F G' H' (All f') → EnvOk K ca G' H' σ' (embB s) f' → D.ct σ' H'
  rt : ∀ r, M = .ok (.rt r) → ∀ v G' H' g, Evo G H F G' H' g → out r G' H' v g → D.rt v H'
  ex : ∀ c, M = .exc c → ∀ σ' G' H' f', Evo G H F G' H' (All f') → EnvOk K ca G' H' σ' ρx.e f' → W (.ref (ca c)) none σ' H'
  ra : ∀ c os, M = .ok (.ra c os) → ∀ σ' G' H' f', Evo G H F G' H' (All f') → EnvOk K ca G' H' σ' (ρx.emb os) f' → W (.ref (ca c)) none σ' H'
/-- a statement's, a block's reading: from what ρ tells, M is what comes -/
def tS (ρ : Env) (M : Res (Out S B T)) : TS := fun D σ H => ∃ G f, EnvOk K ca G H σ ρ f ∧ So K ca W ρx emb embB out D G H (All f) M
end
section
variable {K : PySem.W.Frag} {ca : Nat → Addr} {S S' B T α : Type} {W : WX} {ρ : Env} {ρx : EX} {emb : S → Env} {emb' : S' → Env} {embB : B → Env} {out : T → RtP} {D : Ends} {G H G1 H1 : Hp} {F F1 : AS} {σ : L2.St} {f : Nat → AS}
theorem le_nil {ρ : Env} : Env.le [] ρ := fun i o h => by simp at h
theorem le_refl (ρ : Env) : Env.le ρ ρ := fun _ _ h => h
theorem So.step {m : Res α} {k : α → Res (Out S B T)} {a : α} (h : So K ca W ρx emb embB out D G H F (m >>= k)) (e : m = .ok a) (v : Evo G H F G1 H1 F1) : So K ca W ρx emb embB out D G1 H1 F1 (k a) := by
  subst e
  exact ⟨fun z => h.nb z, fun s z σ' G' H' f' v' E => h.nx s z σ' G' H' f' (v.trans v') E, fun s z σ' G' H' f' v' E => h.bk s z σ' G' H' f' (v.trans v') E, fun s z σ' G' H' f' v' E => h.ct s z σ' G' H' f' (v.trans v') E,
    fun r z w G' H' g v' => h.rt r z w G' H' g (v.trans v'), fun c z σ' G' H' f' v' E => h.ex c z σ' G' H' f' (v.trans v') E, fun c os z σ' G' H' f' v' E => h.ra c os z σ' G' H' f' (v.trans v') E⟩
theorem So.on {M : Res (Out S B T)} (h : So K ca W ρx emb embB out D G H F M) (v : Evo G H F G1 H1 F1) : So K ca W ρx emb embB out D G1 H1 F1 M :=
  So.step (m := .ok ()) (k := fun _ => M) (a := ()) h rfl v
/-- an expression within a statement -/
theorem So.expr {m : Res α} {k : α → Res (Out S B T)} {P : α → Hp → Hp → Prop} (h : So K ca W ρx emb embB out D G H (All f) (m >>= k)) (E : EnvOk K ca G H σ ρ f) (le : Env.le ρx.e ρ)
    (hk : ∀ a G1 H1, m = .ok a → Gb H G H G1 H1 → EnvOk K ca G1 H1 σ ρ f → So K ca W ρx emb embB out D G1 H1 (All f) (k a) → P a G1 H1) : Cr K ca W ρ σ H G H m P := by
  have hf : ∀ i a, f i a → ∃ u, H a = some u := fun i a q => (E.out i a q).2
  refine ⟨Same.refl _, ⟨f, E, hf⟩, fun e => h.nb (by rw [e]; rfl), fun a e G1 H1 g => hk a G1 H1 e g (E.gb hf g) (h.step e (.of_grow g.grow)), fun c e G1 H1 g => ?_⟩
  exact h.ex c (by rw [e]; rfl) σ G1 H1 f (.of_grow g.grow) ((E.gb hf g).weak le)
/-- a shared value is stored -/
theorem EnvOk.put (E : EnvOk K ca G H σ ρ f) {v : V} {d : Lk.D} {i : Nat} (hi : i < σ.length) (r : R K ca G v d) :
    EnvOk K ca G H (σ.set i (some v)) (ρ.set i (some (.d d))) (fun j => if j = i then none_ else f j) := E.store hi (.d r) fun a z => z.elim
theorem all_put {i : Nat} {g : AS} {x : Addr} (h : All (fun j => if j = i then g else f j) x) : g x ∨ All f x := by
  obtain ⟨j, h⟩ := h
  by_cases e : j = i
  · simp only [e, if_true] at h
    exact .inl h
  · simp only [e, if_false] at h
    exact .inr ⟨j, h⟩
/-- .. a new list of one's own -/
theorem EnvOk.putL (E : EnvOk K ca G H σ ρ f) {p : Addr} {vs : List V} {xs : List Lk.D} {i : Nat} (hi : i < σ.length) (hp : H p = some (.lst vs)) (gp : G p = none) (new : ∀ j, ¬ f j p) (r : RL K ca G vs xs) :
    EnvOk K ca G H (σ.set i (some (.ref p))) (ρ.set i (some (.ol none xs))) (fun j => if j = i then (fun a => a = p) else f j) :=
  E.store hi (.ol hp r rfl (fun _ e => by cases e)) fun a z => by
    subst z
    exact ⟨fun j _ => new j, gp, _, hp⟩
end
theorem PS.ofI {X : Cx} {e : Stmt} {t t' : TS} (h : PS X e t) (k : ∀ D σ H, σ.length = X.N.length → t' D σ H → t D σ H) : PS X e t' := ⟨fun pins s σ H D I q => h.run pins s σ H D I (k D σ H I.len q)⟩
theorem PSs.ofI {X : Cx} {e : List Stmt} {t t' : TS} (h : PSs X e t) (k : ∀ D σ H, σ.length = X.N.length → t' D σ H → t D σ H) : PSs X e t' := ⟨fun pins s σ H D I q => h.run pins s σ H D I (k D σ H I.len q)⟩
theorem PSs.any {X : Cx} {ι : Type} {e : List Stmt} {t : ι → TS} (h : ∀ i, PSs X e (t i)) : PSs X e (fun D σ H => ∃ i, t i D σ H) := ⟨fun pins s σ H D I ⟨i, q⟩ => (h i).run pins s σ H D I q⟩
section
variable {X : Cx} {ca : Nat → Addr} {S S' B T α : Type} {W : WX} {ρ : Env} {ρx : EX} {emb : S → Env} {emb' : S' → Env} {embB : B → Env} {out : T → RtP} {e c : Expr} {st : Stmt} {rest sa sb : List Stmt} {pos pos' : Pos} {i : Nat} {n : Str} {ma mb : Res D} {mas : Res (List D)} {mc : Res Bool}
/-! ### blocks -/
def Out.then_ {S S' B T : Type} (k : S → Res (Out S' B T)) : Out S B T → Res (Out S' B T)
  | .nx s => k s
  | .bk b => .ok (.bk b)
  | .ct b => .ok (.ct b)
  | .rt r => .ok (.rt r)
  | .ra c os => .ok (.ra c os)
@[simp] theorem then_ra (k : S → Res (Out S' B T)) (c : Nat) (os : List O) : Out.then_ k (.ra c os) = .ok (.ra c os) := rfl
@[simp] theorem then_nx (k : S → Res (Out S' B T)) (s : S) : Out.then_ k (.nx s) = k s := rfl
@[simp] theorem then_bk (k : S → Res (Out S' B T)) (s : B) : Out.then_ k (.bk s) = .ok (.bk s) := rfl
@[simp] theorem then_ct (k : S → Res (Out S' B T)) (s : B) : Out.then_ k (.ct s) = .ok (.ct s) := rfl
@[simp] theorem then_rt (k : S → Res (Out S' B T)) (s : T) : Out.then_ k (.rt s) = .ok (.rt s) := rfl
theorem s_nil {s : S} (le : Env.le (emb s) ρ) : PSs X [] (tS X.K ca W ρx emb embB out ρ (.ok (.nx s))) :=
  PSs.of pss_nil fun D σ H ⟨G, f, E, h⟩ => h.nx s rfl σ G H f (.refl E.sub) (E.weak le)
theorem s_pass {s : S} {p : Pos} (le : Env.le (emb s) ρ) : PS X (.Pass p) (tS X.K ca W ρx emb embB out ρ (.ok (.nx s))) :=
  PS.of ps_pass fun D σ H ⟨G, f, E, h⟩ => h.nx s rfl σ G H f (.refl E.sub) (E.weak le)
theorem s_seq {M1 : Res (Out S' B T)} {M2 : S' → Res (Out S B T)} (h1 : PS X st (tS X.K ca W ρx emb' embB out ρ M1)) (h2 : ∀ s, PSs X rest (tS X.K ca W ρx emb embB out (emb' s) (M2 s))) :
    PSs X (st :: rest) (tS X.K ca W ρx emb embB out ρ (M1 >>= Out.then_ M2)) :=
  PSs.of (pss_cons h1 (PSs.any h2)) fun D σ H ⟨G, f, E, h⟩ => ⟨G, f, E, ⟨fun z => h.nb (by rw [z]; rfl), fun s z σ' G' H' f' v E' => ⟨s, G', f', E', h.step z v⟩, fun s z => h.bk s (by rw [z]; rfl), fun s z => h.ct s (by rw [z]; rfl), fun r z => h.rt r (by rw [z]; rfl), fun c z => h.ex c (by rw [z]; rfl), fun c os z => h.ra c os (by rw [z]; rfl)⟩⟩
theorem s_one {M : Res (Out S B T)} (h1 : PS X st (tS X.K ca W ρx emb embB out ρ M)) : PSs X [st] (tS X.K ca W ρx emb embB out ρ M) := pss_one h1
theorem s_docs {M : Res (Out S B T)} {x j p p2} (h : PSs X rest (tS X.K ca W ρx emb embB out ρ M)) : PSs X (.Expr (.Constant (.str x) j p) p2 :: rest) (tS X.K ca W ρx emb embB out ρ M) :=
  PSs.of (pss_cons ps_doc h) fun D σ H q => q
/-- a list of one's own is shared from here on -/
theorem s_pub {M : Res (Out S B T)} {r : Option V} {xs : List D} (hi : ρ[i]? = some (some (.ol r xs))) (h : PSs X rest (tS X.K ca W ρx emb embB out (ρ.set i (some (.d (.lst xs)))) M)) : PSs X rest (tS X.K ca W ρx emb embB out ρ M) :=
  PSs.of h fun D σ H ⟨G, f, E, h⟩ => by
    obtain ⟨v, q1, q2⟩ := E.slot i _ hi
    cases q2 with
    | @ol p _ vs _ _ hp rl fp _ =>
      have gp := (E.out i p fp).1
      have s1 : Same G (upd G p (.lst vs)) := fun a u z => by rw [upd_ne (ne_of_none z gp)]; exact z
      have s2 : Same (upd G p (.lst vs)) H := fun a u z => by
        by_cases e : a = p
        · subst e
          rw [upd_same] at z
          rw [hp]; exact z
        · rw [upd_ne e] at z
          exact E.sub a u z
      have E2 : EnvOk X.K ca (upd G p (.lst vs)) H σ (ρ.set i (some (.d (.lst xs)))) (fun j => if j = i then none_ else f j) := by
        refine ⟨s2, fun j o hj => ?_, fun j k a h1 h2 => ?_, fun j a h1 => ?_⟩
        · by_cases e : j = i
          · subst e
            have hl : j < (ρ.set j (some (.d (.lst xs)))).length := (List.getElem?_eq_some_iff.mp hj).1
            rw [List.length_set] at hl
            rw [List.getElem?_set_self hl] at hj
            cases hj
            exact ⟨_, q1, .d (.lst (.inl (.inl upd_same)) (rl.mono s1))⟩
          · rw [List.getElem?_set_ne (Ne.symm e)] at hj
            obtain ⟨w, z1, z2⟩ := E.slot j o hj
            exact ⟨w, z1, by simpa [e] using z2.mono s1 fun a u _ z => z⟩
        · by_cases e1 : j = i
          · simp only [e1, if_true] at h1
            exact h1.elim
          · by_cases e2 : k = i
            · simp only [e2, if_true] at h2
              exact h2.elim
            · simp only [e1, e2, if_false] at h1 h2
              exact E.sep j k a h1 h2
        · by_cases e1 : j = i
          · simp only [e1, if_true] at h1
            exact h1.elim
          · simp only [e1, if_false] at h1
            obtain ⟨z1, z2⟩ := E.out j a h1
            refine ⟨?_, z2⟩
            rw [upd_ne (fun z => e1 (E.sep j i a h1 (by rw [z]; exact fp)))]
            exact z1
      refine ⟨_, _, E2, h.on ⟨s1, s2, fun a o z _ => z, fun a o z => ?_, fun a z => ?_⟩⟩
      · by_cases e : a = p
        · subst e
          exact .inr (.inr ⟨i, fp⟩)
        · rw [upd_ne e] at z
          exact .inl z
      · rcases all_put z with z | z
        · exact z.elim
        · exact .inl z
/-- less is known from here on -/
theorem s_weak {M : Res (Out S B T)} {ρ' : Env} (le : Env.le ρ' ρ) (h : PSs X rest (tS X.K ca W ρx emb embB out ρ' M)) : PSs X rest (tS X.K ca W ρx emb embB out ρ M) :=
  PSs.of h fun D σ H ⟨G, f, E, h⟩ => ⟨G, f, E.weak le, h⟩
/-! ### names -/
theorem s_set {k : D → Res (Out S B T)} (hN : X.N.Nodup) (hi : X.N[i]? = some n) (hx : Loc X.env.scope n) (he : PE X e (tD X.K ca W ρ ma)) (le : Env.le ρx.e ρ)
    (h : ∀ a, PSs X rest (tS X.K ca W ρx emb embB out (ρ.set i (some (.d a))) (k a))) (hs : swapsWith e (some (.Name n pos')) pos.line X.env = pure false := by rfl)
    (hf : X.fn n = true ∨ X.env.scope.names.lookup n = some .local := by first | exact .inl rfl | exact .inr rfl | assumption) : PSs X (.Assign [.Name n pos'] e pos :: rest) (tS X.K ca W ρx emb embB out ρ (ma >>= k)) :=
  PSs.ofI (pss_cons (ps_set hN hi hx he hs hf) (PSs.any h)) fun D σ H hl ⟨G, f, E, hq⟩ => ⟨H, G, hq.expr E le fun a G1 H1 ea g E1 h1 v rv => by
    have hiσ : i < σ.length := by rw [hl]; exact (List.getElem?_eq_some_iff.mp hi).1
    exact ⟨a, G1, _, E1.put hiσ rv, h1.on ((Evo.refl E1.sub).less fun x z => (all_put z).elim False.elim id)⟩⟩
/-- .. a new list -/
theorem s_setL {k : List D → Res (Out S B T)} (hN : X.N.Nodup) (hi : X.N[i]? = some n) (hx : Loc X.env.scope n) (he : PE X e (tL X.K ca W ρ mas)) (le : Env.le ρx.e ρ)
    (h : ∀ a, PSs X rest (tS X.K ca W ρx emb embB out (ρ.set i (some (.ol none a))) (k a))) (hs : swapsWith e (some (.Name n pos')) pos.line X.env = pure false := by rfl)
    (hf : X.fn n = true ∨ X.env.scope.names.lookup n = some .local := by first | exact .inl rfl | exact .inr rfl | assumption) : PSs X (.Assign [.Name n pos'] e pos :: rest) (tS X.K ca W ρx emb embB out ρ (mas >>= k)) :=
  PSs.ofI (pss_cons (ps_set hN hi hx he hs hf) (PSs.any h)) fun D σ H hl ⟨G, f, E, hq⟩ => ⟨H, G, hq.expr E le fun a G1 H1 ea g E1 h1 p vs hp gp hh rl => by
    have hiσ : i < σ.length := by rw [hl]; exact (List.getElem?_eq_some_iff.mp hi).1
    have new : ∀ j, ¬ f j p := fun j z => by
      obtain ⟨_, u, q⟩ := E.out j p z
      rw [hp] at q; cases q
    refine ⟨a, G1, _, E1.putL hiσ hh gp new rl, ?_⟩
    exact So.step (m := mas) hq ea ⟨g.g, g.sub, fun x o z _ => g.h x o z, fun x o z => (g.new x o z).elim .inl fun q => .inr (.inl q), fun x z => (all_put z).elim (fun q => .inr (by rw [q]; exact hp)) .inl⟩⟩
/-- x op= e: an int -/
theorem s_aug {op : Operator} {fi : Int → Int → Int} {x : Int} {k : D → Res (Out S B T)} (hN : X.N.Nodup) (hi : X.N[i]? = some n) (hx : Loc X.env.scope n) (hp : PIp X op (ipI fi)) (hv : ∃ d, ρ[i]? = some (some (.d d))) (he : PE X e (tD X.K ca W ρ ma)) (le : Env.le ρx.e ρ)
    {fd : D → D → Res D} (hfd : ∀ a b, fd (.int a) (.int b) = .ok (.int (fi a b))) (hfb : ∀ a b, fd a b ≠ .bug → ∃ i j, a = .int i ∧ b = .int j) {d0 : D} (hd : ρ[i]? = some (some (.d d0)))
    (h : ∀ a, PSs X rest (tS X.K ca W ρx emb embB out (ρ.set i (some (.d a))) (k a)))
    (hf : X.fn n = true ∨ X.env.scope.names.lookup n = some .local := by first | exact .inl rfl | exact .inr rfl | assumption) : PSs X (.AugAssign (.Name n pos') op e pos :: rest) (tS X.K ca W ρx emb embB out ρ (ma >>= fun b => fd d0 b >>= k)) :=
  PSs.ofI (pss_cons (ps_aug hN hi hx he hp hf) (PSs.any h)) fun D σ H hl ⟨G, f, E, hq⟩ => by
    have hiσ : i < σ.length := by rw [hl]; exact (List.getElem?_eq_some_iff.mp hi).1
    obtain ⟨v0, q1, q2⟩ := E.slot i _ hd
    cases q2 with
    | d q2 =>
      refine ⟨v0, q1, H, G, hq.expr E le fun b G1 H1 ea g E1 h1 w rw' => ?_⟩
      obtain ⟨a', b', ea', eb'⟩ := hfb d0 b (bind_ne h1.nb)
      subst ea' eb'
      have q3 := q2.mono g.g
      cases q3
      cases rw'
      rw [hfd] at h1
      exact ⟨a', b', rfl, rfl, .int (fi a' b'), G1, _, E1.put hiσ (.int _), h1.on ((Evo.refl E1.sub).less fun x z => (all_put z).elim False.elim id)⟩
/-! ### what is done with a list of one's own -/
theorem EnvOk.change {K : PySem.W.Frag} {G H : Hp} {σ : L2.St} {f : Nat → AS} (E : EnvOk K ca G H σ ρ f) {p : Addr} {vs : List V} {xs : List Lk.D} {o : HO} {r : Option V} (fp : f i p) (ho : o = .lst vs) (rl : RL K ca G vs xs) {v : V} (hv : σ[i]? = some (some v)) (ev : v = .ref p) (pn : ∀ w, r = some w → w = .ref p) :
    EnvOk K ca G (upd H p o) σ (ρ.set i (some (.ol r xs))) f ∧ Evo G H (All f) G (upd H p o) (All f) := by
  subst ho ev
  have gp := (E.out i p fp).1
  have sub : Same G (upd H p (.lst vs)) := fun a u z => by rw [upd_ne (ne_of_none z gp)]; exact E.sub a u z
  refine ⟨⟨sub, fun j u hj => ?_, E.sep, fun j a h1 => ?_⟩, ⟨Same.refl _, sub, fun a u z nf => ?_, fun a u z => .inl z, fun a z => .inl z⟩⟩
  · by_cases e : j = i
    · subst e
      have hl : j < (ρ.set j (some (.ol r xs))).length := (List.getElem?_eq_some_iff.mp hj).1
      rw [List.length_set] at hl
      rw [List.getElem?_set_self hl] at hj
      cases hj
      exact ⟨_, hv, .ol upd_same rl fp pn⟩
    · rw [List.getElem?_set_ne (Ne.symm e)] at hj
      obtain ⟨w, z1, z2⟩ := E.slot j u hj
      refine ⟨w, z1, z2.mono (Same.refl _) fun a u' fa z => ?_⟩
      rw [upd_ne (fun z => e (E.sep j i a fa (by rw [z]; exact fp)))]
      exact z
  · obtain ⟨z1, u, z2⟩ := E.out j a h1
    refine ⟨z1, ?_⟩
    by_cases e : a = p
    · exact ⟨_, by rw [e]; exact upd_same⟩
    · exact ⟨u, by rw [upd_ne e]; exact z2⟩
  · rw [upd_ne (fun e => nf ⟨i, by rw [e]; exact fp⟩)]
    exact z
theorem EnvOk.own {K : PySem.W.Frag} {G H : Hp} {σ : L2.St} {f : Nat → AS} {xs : List Lk.D} {r : Option V} (E : EnvOk K ca G H σ ρ f) (h : ρ[i]? = some (some (.ol r xs))) : ∃ p vs, σ[i]? = some (some (.ref p)) ∧ H p = some (.lst vs) ∧ RL K ca G vs xs ∧ f i p ∧ ∀ w, r = some w → w = .ref p := by
  obtain ⟨v, q1, q2⟩ := E.slot i _ h
  cases q2 with
  | ol a b c d => exact ⟨_, _, q1, a, b, c, d⟩
/-- x.append(e) -/
def pushR (xs : List D) (d : D) : Res (List D) := if xs.length < 100000 then .ok (xs ++ [d]) else .bug
theorem pushR_ok {xs : List D} {d : D} (h : xs.length < 100000) : pushR xs d = .ok (xs ++ [d]) := if_pos h
theorem s_append {apos cpos epos p0 : Pos} {r : Option V} {xs : List D} {k : List D → Res (Out S B T)} (hN : X.N[i]? = some n) (hv : Vis X.env.scope n) (hd : (n == ("__debug__" : Str)) = false) (hcd : (n == ("__classdict__" : Str)) = false)
    (ho : ρ[i]? = some (some (.ol r xs))) (he : PE X e (tD X.K ca W ρ ma)) (le : Env.le ρx.e ρ) (h : ∀ ys, PSs X rest (tS X.K ca W ρx emb embB out (ρ.set i (some (.ol r ys))) (k ys)))
    (hbase : attributeBase (.Name n p0) "append" X.env (eval (.Name n p0) X.env) = eval (.Name n p0) X.env := by rfl)
    (hfew : ((backTo cpos (starEach [e] X.env)).all (fun x => !x.1) && (backToKw cpos (keywordEach [] X.env)).all (fun x => x.1.isSome)
      && decide ([e].length + ([] : List Keyword).length + (if ([] : List Keyword).isEmpty then 0 else 1) < 30)) = true := by rfl)
    (hline : (apos.endLine == cpos.line) = true := by rfl) (hs : starEach [e] X.env = (false, eval e X.env) :: starEach [] X.env := by rfl) (hplain : (backTo cpos (starEach [] X.env)).any (·.1) = false := by rfl)
    (hsw : swapsWith (.Call (.Attribute (.Name n p0) "append" apos) [e] [] cpos) none epos.line X.env = pure false := by rfl) :
    PSs X (.Expr (.Call (.Attribute (.Name n p0) "append" apos) [e] [] cpos) epos :: rest) (tS X.K ca W ρx emb embB out ρ (ma >>= fun d => pushR xs d >>= k)) :=
  PSs.of (pss_cons (ps_expr (pe_bm PySem.F.plainAttrs_list PySem.F.slot_list_append PySem.F.type_list_append mt_append (pe_var hN hv hd hcd) (pa_cons he pa_nil hs) hbase hfew hline hs hplain) hsw) (PSs.any h)) fun D σ H ⟨G, f, E, hq⟩ => by
    obtain ⟨p, vs, hσ, hp, rl, fp, pn⟩ := E.own ho
    refine ⟨.ref p, hσ, .inl ⟨rfl, _, SqL.of hp⟩, H, G, hq.expr E le fun d G1 H1 ea g E1 h1 w rw' => ?_⟩
    have rl1 := rl.mono g.g
    by_cases hz : xs.length < 100000
    · rw [pushR_ok hz] at h1
      refine ⟨p, vs, w, rfl, rfl, g.h _ _ hp, Nat.lt_of_lt_of_le (by rw [rl.length]; exact hz) (by decide), xs ++ [d], ?_⟩
      obtain ⟨E2, v2⟩ := E1.change (vs := vs ++ [w]) (xs := xs ++ [d]) fp rfl (rl1.append (.cons rw' .nil)) hσ rfl pn
      exact ⟨G1, f, E2, h1.on v2⟩
    · exact (h1.nb (by unfold pushR; rw [if_neg hz]; rfl)).elim
/-- x[i] = e -/
def setR (xs : List D) (k : D) (d : D) : Res (List D) := match k with
  | .int i => (match ixN xs.length i with | some j => .ok (xs.set j d) | none => .bug)
  | _ => .bug
theorem setR_nat {xs : List D} {j : Nat} {d : D} (h : j < xs.length) : setR xs (.int (j : Int)) d = .ok (xs.set j d) := by
  have e : ixN xs.length (j : Int) = some j := by
    unfold ixN
    rw [if_pos (by omega), if_pos (by omega)]; simp
  simp only [setR, e]
theorem s_setItem {spos p0 : Pos} {b : Expr} {r : Option V} {xs : List D} {k : List D → Res (Out S B T)} (hN : X.N[i]? = some n) (hv : Vis X.env.scope n) (hd : (n == ("__debug__" : Str)) = false) (hcd : (n == ("__classdict__" : Str)) = false)
    (ho : ρ[i]? = some (some (.ol r xs))) (he : PE X e (tD X.K ca W ρ ma)) (hb : PE X b (tD X.K ca W ρ mb)) (le : Env.le ρx.e ρ) (h : ∀ ys, PSs X rest (tS X.K ca W ρx emb embB out (ρ.set i (some (.ol r ys))) (k ys)))
    (hs : swapsWithSole [.Subscript (.Name n p0) b spos] e pos.line X.env = pure false := by rfl) (hw : swappedStores [.Subscript (.Name n p0) b spos] e X.env = pure none := by rfl)
    (h1 : (assignEach [.Subscript (.Name n p0) b spos] X.env).map (·.2) = [assign (.Subscript (.Name n p0) b spos) X.env] := by rfl)
    (ha : ∀ v, assign (.Subscript (.Name n p0) b spos) X.env v = (do
      let ov ← holding [v] (eval (.Name n p0) X.env)
      let iv ← holding [v, ov] (eval b X.env)
      standAt spos
      holding [v, ov, iv] (setItem ov iv v)
      release [v, ov, iv] []) := by intro _; rfl) :
    PSs X (.Assign [.Subscript (.Name n p0) b spos] e pos :: rest) (tS X.K ca W ρx emb embB out ρ (ma >>= fun d => mb >>= fun y => setR xs y d >>= k)) :=
  PSs.of (pss_cons (ps_asg he (pg_sub (pe_var hN hv hd hcd) hb set_list ha) hs hw h1) (PSs.any h)) fun D σ H ⟨G, f, E, hq⟩ => by
    obtain ⟨p, vs, hσ, hp, rl, fp, pn⟩ := E.own ho
    refine ⟨H, G, hq.expr E le fun d G1 H1 ea g E1 h1 w rw' => ?_⟩
    refine ⟨.ref p, hσ, H1, G1, h1.expr E1 le fun y G2 H2 eb g2 E2 h2 u ru => ?_⟩
    cases y with
    | int z =>
      cases ru
      cases e : ixN xs.length z with
      | none => exact (h2.nb (by simp only [setR, e]; rfl)).elim
      | some j =>
        have e2 : setR xs (.int z) d = .ok (xs.set j d) := by simp only [setR, e]
        rw [e2] at h2
        refine ⟨p, vs, z, j, rfl, rfl, g2.h _ _ (g.h _ _ hp), by rw [rl.length]; exact e, xs.set j d, ?_⟩
        obtain ⟨E3, v3⟩ := E2.change (vs := vs.set j w) (xs := xs.set j d) fp rfl ((rl.mono (g.g.trans g2.g)).set (rw'.mono g2.g) j) hσ rfl pn
        exact ⟨G2, f, E3, h2.on v3⟩
    | _ => exact (h2.nb rfl).elim
/-- a list of one's own is read: x[i], len(x), truth -/
theorem e_own {m : Res D} (hi : ∀ G H σ f, EnvOk X.K ca G H σ ρ f → True) (h : PE X e (tD X.K ca W ρ m)) : PE X e (tD X.K ca W ρ m) := h
/-! ### if -/
def Out.up {S B T : Type} : Out Empty B T → Out S B T
  | .bk b => .bk b
  | .ct b => .ct b
  | .rt r => .rt r
  | .ra c os => .ra c os
def Res.up {S B T : Type} (m : Res (Out Empty B T)) : Res (Out S B T) := m >>= fun o => .ok o.up
@[simp] theorem up_ok (o : Out Empty B T) : Res.up (S := S) (.ok o) = .ok o.up := rfl
@[simp] theorem up_exc (c : Nat) : Res.up (S := S) (B := B) (T := T) (.exc c) = .exc c := rfl
@[simp] theorem up_bug : Res.up (S := S) (B := B) (T := T) .bug = .bug := rfl
@[simp] theorem oup_ra (c : Nat) (os : List O) : Out.up (S := S) (B := B) (T := T) (.ra c os) = .ra c os := rfl
@[simp] theorem oup_rt (r : T) : Out.up (S := S) (B := B) (.rt r) = .rt r := rfl
@[simp] theorem oup_bk (r : B) : Out.up (S := S) (T := T) (.bk r) = .bk r := rfl
@[simp] theorem oup_ct (r : B) : Out.up (S := S) (T := T) (.ct r) = .ct r := rfl
theorem So.down {K : PySem.W.Frag} {G H : Hp} {F : AS} {D : Ends} {D' : Ends} {M : Res (Out Empty B T)} {nE : Empty → Env} (h : So K ca W ρx emb embB out D G H F (Res.up M)) (e1 : D'.bk = D.bk) (e2 : D'.ct = D.ct) (e3 : D'.rt = D.rt) : So K ca W ρx nE embB out D' G H F M :=
  ⟨fun z => h.nb (by rw [z]; rfl), fun s => s.elim, fun s z => by rw [e1]; exact h.bk s (by rw [z]; rfl), fun s z => by rw [e2]; exact h.ct s (by rw [z]; rfl), fun r z => by rw [e3]; exact h.rt r (by rw [z]; rfl), fun c z => h.ex c (by rw [z]; rfl), fun c os z => h.ra c os (by rw [z]; rfl)⟩
/-- if c: a block that leaves; the rest -/
theorem s_ifx {MA : Res (Out Empty B T)} {M : Res (Out S B T)} {nE : Empty → Env} (hc : PT X c (tB X.K ca W ρ mc)) (le : Env.le ρx.e ρ) (ha : PSs X sa (tS X.K ca W ρx nE embB out ρ MA)) (h : PSs X rest (tS X.K ca W ρx emb embB out ρ M)) :
    PSs X (.If c sa [] pos :: rest) (tS X.K ca W ρx emb embB out ρ (mc >>= fun b => if b then Res.up MA else M)) :=
  PSs.of (pss_cons (ps_if hc ha pss_nil) h) fun D σ H ⟨G, f, E, hq⟩ => ⟨H, G, hq.expr E le fun b G1 H1 eb g E1 h1 => by
    cases b with
    | true => exact ⟨G1, f, E1, So.down h1 rfl rfl rfl⟩
    | false => exact ⟨G1, f, E1, h1⟩⟩
/-- if c: a block; else: one that leaves; the rest behind the first -/
theorem s_if {MA MB : Res (Out S B T)} (hc : PT X c (tB X.K ca W ρ mc)) (le : Env.le ρx.e ρ) (ha : PSs X sa (tS X.K ca W ρx emb embB out ρ MA)) (hb : PSs X sb (tS X.K ca W ρx emb embB out ρ MB)) :
    PS X (.If c sa sb pos) (tS X.K ca W ρx emb embB out ρ (mc >>= fun b => if b then MA else MB)) :=
  PS.of (ps_if hc ha hb) fun D σ H ⟨G, f, E, hq⟩ => ⟨H, G, hq.expr E le fun b G1 H1 eb g E1 h1 => by
    cases b with
    | true => exact ⟨G1, f, E1, h1⟩
    | false => exact ⟨G1, f, E1, h1⟩⟩
/-! ### return, break, continue -/
theorem s_ret {embB : B → Env} (he : PE X e (tD X.K ca W ρ ma)) (le : Env.le ρx.e ρ) : PS X (.Return (some e) pos) (tS X.K ca W ρx emb embB (rtO X.K ca O.d) ρ (ma >>= fun a => .ok (.rt a))) :=
  PS.of (ps_ret he) fun D σ H ⟨G, f, E, hq⟩ => ⟨H, G, hq.expr E le fun a G1 H1 ea g E1 h1 v rv => h1.rt a rfl v G1 H1 none_ ((Evo.refl E1.sub).less fun x z => z.elim) ⟨.d rv, fun x z => z.elim⟩⟩
theorem s_retL {embB : B → Env} (he : PE X e (tL X.K ca W ρ mas)) (le : Env.le ρx.e ρ) : PS X (.Return (some e) pos) (tS X.K ca W ρx emb embB (rtO X.K ca (O.ol none)) ρ (mas >>= fun a => .ok (.rt a))) :=
  PS.of (ps_ret he) fun D σ H ⟨G, f, E, hq⟩ => ⟨H, G, hq.expr E le fun a G1 H1 ea g E1 h1 p vs hp gp hh rl =>
    So.rt hq a (by rw [ea]; rfl) (.ref p) G1 H1 (fun x => x = p) ⟨g.g, g.sub, fun x o z _ => g.h x o z, fun x o z => (g.new x o z).elim .inl fun q => .inr (.inl q), fun x z => .inr (by rw [z]; exact hp)⟩ ⟨.ol hh rl rfl (fun _ e => by cases e), fun x z => by rw [z]; exact ⟨gp, _, hh⟩⟩⟩
/-- return x, x a list of one's own -/
theorem s_retOwn {r : Option V} {xs : List D} {p0 : Pos} (hN : X.N[i]? = some n) (hv : Vis X.env.scope n) (hd : (n == ("__debug__" : Str)) = false) (hcd : (n == ("__classdict__" : Str)) = false) (ho : ρ[i]? = some (some (.ol r xs))) :
    PS X (.Return (some (.Name n p0)) pos) (tS X.K ca W ρx emb embB (rtO X.K ca (O.ol none)) ρ (.ok (.rt xs))) :=
  PS.of (ps_ret (pe_var hN hv hd hcd)) fun D σ H ⟨G, f, E, hq⟩ => by
    obtain ⟨p, vs, hσ, hp, rl, fp, pn⟩ := E.own ho
    exact ⟨.ref p, hσ, hq.rt xs rfl (.ref p) G H (fun x => x = p) ((Evo.refl E.sub).less fun x z => ⟨i, by rw [z]; exact fp⟩) ⟨.ol hp rl rfl (fun _ e => by cases e), fun x z => by rw [z]; exact E.out i p fp⟩⟩
theorem s_retN {embB : B → Env} : PS X (.Return none pos) (tS X.K ca W ρx emb embB (rtO X.K ca O.d) ρ (.ok (.rt .non))) :=
  PS.of ps_retN fun D σ H ⟨G, f, E, hq⟩ => hq.rt .non rfl .non G H none_ ((Evo.refl E.sub).less fun x z => z.elim) ⟨.d .non, fun x z => z.elim⟩
theorem s_break {s : B} (le : Env.le (embB s) ρ) : PS X (.Break pos) (tS X.K ca W ρx emb embB out ρ (.ok (.bk s))) :=
  PS.of ps_break fun D σ H ⟨G, f, E, hq⟩ => hq.bk s rfl σ G H f (.refl E.sub) (E.weak le)
theorem s_continue {s : B} (le : Env.le (embB s) ρ) : PS X (.Continue pos) (tS X.K ca W ρx emb embB out ρ (.ok (.ct s))) :=
  PS.of ps_continue fun D σ H ⟨G, f, E, hq⟩ => hq.ct s rfl σ G H f (.refl E.sub) (E.weak le)
/-- e, its value dropped -/
theorem s_drop {k : Res (Out S B T)} (he : PE X e (tD X.K ca W ρ ma)) (le : Env.le ρx.e ρ) (h : PSs X rest (tS X.K ca W ρx emb embB out ρ k)) (hs : swapsWith e none pos.line X.env = pure false := by rfl) :
    PSs X (.Expr e pos :: rest) (tS X.K ca W ρx emb embB out ρ (ma >>= fun _ => k)) :=
  PSs.of (pss_cons (ps_expr he hs) h) fun D σ H ⟨G, f, E, hq⟩ => ⟨H, G, hq.expr E le fun a G1 H1 ea g E1 h1 v rv => ⟨G1, f, E1, h1⟩⟩
/-- raise X('..') -/
theorem s_raise {cx : Nat} {x : Expr} (hc : X.calm = true) (tk : Takes X W) (hm : PMk X x (fun _ H Q => Q (.ref (ca cx)) none H)) (le : Env.le ρx.e ρ) : PS X (.Raise (some x) none pos) (tS X.K ca W ρx emb embB out ρ (.exc cx)) :=
  PS.of (ps_raise hc tk hm) fun D σ H ⟨G, f, E, hq⟩ => hq.ex cx rfl σ G H f (.refl E.sub) (E.weak le)
end
end Lk
namespace Lk
open PySem PySem.Spec PyProof.Rows L2
/-! ### what is walked -/
structure Wk (K : PySem.W.Frag) (ca : Nat → Addr) (J : It) (G0 : Hp) (xs : List D) : Prop where
  go : ∀ i H, Same G0 H → i < xs.length → J.go i H
  stop : ∀ i H, Same G0 H → i = xs.length → J.stop i H
  yld : ∀ i Hb G H x H', Same G0 G → Same Hb H → Same G H → i < xs.length → J.yld i H x H' → ∃ d G', xs[i]? = some d ∧ Gb Hb G H G' H' ∧ R K ca G' x d
def tIt (K : PySem.W.Frag) (ca : Nat → Addr) (W : WX) (ρ : Env) (m : Res (List D)) : TI := fun σ H Rq => ∃ Hb G, Cr K ca W ρ σ Hb G H m fun xs G' H' => ∀ J, Wk K ca J G' xs → Rq J H'
theorem PI.of {X : Cx} {tg e : Expr} {t t' : TI} (h : PI X tg e t) (k : ∀ σ H Q, t' σ H Q → t σ H Q) : PI X tg e t' := ⟨fun pins s σ H Q I q => h.run pins s σ H Q I (k σ H Q q)⟩
theorem PI.two {X : Cx} {tg e : Expr} {t t' : TI} (h : PI X tg e t) (h' : PI X tg e t') : PI X tg e (fun σ H Q => t σ H Q ∨ t' σ H Q) := ⟨fun pins s σ H Q I q => q.elim (h.run pins s σ H Q I) (h'.run pins s σ H Q I)⟩
def D.seq : D → Res (List D)
  | .lst xs => .ok xs
  | .tup xs => .ok xs
  | .str z => .ok (z.cps.toList.map fun c => .str ⟨#[c]⟩)
  | _ => .bug
@[simp] theorem seq_lst (xs : List D) : D.seq (.lst xs) = .ok xs := rfl
@[simp] theorem seq_tup (xs : List D) : D.seq (.tup xs) = .ok xs := rfl
@[simp] theorem seq_str (z : Str) : D.seq (.str z) = .ok (z.cps.toList.map fun c => .str ⟨#[c]⟩) := rfl
def rangeD (lo : Int) (n : Nat) : List D := (List.range n).map fun (k : Nat) => .int (lo + (k : Int))
@[simp] theorem rangeD_length (lo : Int) (n : Nat) : (rangeD lo n).length = n := by simp [rangeD]
def inB (i : Int) : Bool := decide (-(4611686018427387904) ≤ i ∧ i < 4611686018427387904)
def D.range1 : List D → Res (List D) := one fun
  | .int j => if inB j = true then .ok (rangeD 0 j.toNat) else .bug
  | _ => .bug
def D.range2 : List D → Res (List D) := two' fun i j => if (inB i && inB j) = true then .ok (rangeD i (j - i).toNat) else .bug
def downD (i : Int) (n : Nat) : List D := (List.range n).map fun (k : Nat) => .int (i + (k : Int) * -1)
@[simp] theorem downD_length (lo : Int) (n : Nat) : (downD lo n).length = n := by simp [downD]
def stepD (i c : Int) (n : Nat) : List D := (List.range n).map fun (k : Nat) => .int (i + (k : Int) * c)
@[simp] theorem stepD_length (lo c : Int) (n : Nat) : (stepD lo c n).length = n := by simp [stepD]
def stepN (i j c : Int) : Nat := if i < j then ((j - i - 1) / c + 1).toNat else 0
def D.range3 : List D → Res (List D)
  | [.int i, .int j, .int c] => if (inB i && inB j && decide (c = -1)) = true then .ok (downD i (i - j).toNat)
      else if (inB i && inB j && decide (1 ≤ c ∧ c ≤ 1000)) = true then .ok (stepD i c (stepN i j c)) else .bug
  | _ => .bug
theorem range1_ok {j : Int} (h : inB j = true) : D.range1 [.int j] = .ok (rangeD 0 j.toNat) := if_pos h
theorem range2_ok {i j : Int} (h : inB i = true) (h2 : inB j = true) : D.range2 [.int i, .int j] = .ok (rangeD i (j - i).toNat) := if_pos (by rw [h, h2]; rfl)
theorem range3_ok {i j : Int} (h : inB i = true) (h2 : inB j = true) : D.range3 [.int i, .int j, .int (-1)] = .ok (downD i (i - j).toNat) := if_pos (by rw [h, h2]; rfl)
theorem range3_up {i j c : Int} (h : inB i = true) (h2 : inB j = true) (h3 : 1 ≤ c) (h4 : c ≤ 1000) : D.range3 [.int i, .int j, .int c] = .ok (stepD i c (stepN i j c)) := by
  have n : ¬ (inB i && inB j && decide (c = -1)) = true := by
    intro q
    have := of_decide_eq_true (Bool.and_eq_true_iff.mp q).2
    omega
  show (if _ then _ else _) = _
  rw [if_neg n, if_pos (by rw [h, h2, decide_eq_true (show 1 ≤ c ∧ c ≤ 1000 from ⟨h3, h4⟩)]; rfl)]
theorem rg_up {i j c : Int} (h : -(2 ^ 62) ≤ i ∧ i < 2 ^ 62) (h2 : -(2 ^ 62) ≤ j ∧ j < 2 ^ 62) (h3 : 1 ≤ c) (h4 : c ≤ 1000) : RgC i j c (stepN i j c) := by
  have hr : Builtin.Range.rangeSize i j c = (stepN i j c : Int) := by
    unfold Builtin.Range.rangeSize stepN
    rw [if_pos (show c > 0 by omega)]
    by_cases q : i < j
    · rw [if_pos q, if_pos q]
      have : 0 ≤ (j - i - 1) / c := Int.ediv_nonneg (by omega) (by omega)
      omega
    · rw [if_neg q, if_neg q]
      rfl
  refine ⟨by omega, by omega, ?_, hr⟩
  have b : Builtin.Range.rangeSize i j c < 2 ^ 63 := by
    rw [hr]
    unfold stepN
    by_cases q : i < j
    · rw [if_pos q]
      have : (j - i - 1) / c ≤ j - i - 1 := Int.ediv_le_self _ (by omega)
      have : 0 ≤ (j - i - 1) / c := Int.ediv_nonneg (by omega) (by omega)
      omega
    · rw [if_neg q]; decide
  have b0 : 0 ≤ Builtin.Range.rangeSize i j c := by rw [hr]; omega
  have f : ∀ x : Int, -(2 ^ 63) ≤ x → x < 2 ^ 63 → Builtin.Range.rangeFitsLong x = true := fun x h h2 => by
    unfold Builtin.Range.rangeFitsLong
    rw [decide_eq_true h, decide_eq_true h2]
    rfl
  unfold Builtin.Range.small
  rw [f i (by omega) (by omega), f j (by omega) (by omega), f c (by omega) (by omega), f _ (by omega) b, if_pos (show c > 0 by omega), f (j + (c - 1)) (by omega) (by omega)]
  simp
section
variable {K : PySem.W.Frag} {ca : Nat → Addr}
theorem wk_list {G : Hp} {a : Addr} {vs : List V} {xs : List D} (h : SqL K G a vs) (r : RL K ca G vs xs) : Wk K ca (Itl K a) G xs where
  go := fun i H s hi => ⟨vs, vs[i]'(by rw [r.length]; exact hi), Same.sqL s h, by simp⟩
  stop := fun i H s hi => ⟨vs, Same.sqL s h, by rw [r.length]; omega⟩
  yld := fun i Hb G1 H x H' s1 sb s hi ⟨e, q⟩ => by
    subst e
    obtain ⟨d, q1, q2⟩ := r.get' (q vs (Same.sqL (s1.trans s) h))
    exact ⟨d, G1, q1, .refl s, q2.mono s1⟩
theorem wk_tup {G : Hp} {a : Addr} {vs : List V} {xs : List D} (h : SqT K G a vs) (r : RL K ca G vs xs) : Wk K ca (Itt K a) G xs where
  go := fun i H s hi => ⟨vs, vs[i]'(by rw [r.length]; exact hi), Same.sqT s h, by simp⟩
  stop := fun i H s hi => ⟨vs, Same.sqT s h, by rw [r.length]; omega⟩
  yld := fun i Hb G1 H x H' s1 sb s hi ⟨e, q⟩ => by
    subst e
    obtain ⟨d, q1, q2⟩ := r.get' (q vs (Same.sqT (s1.trans s) h))
    exact ⟨d, G1, q1, .refl s, q2.mono s1⟩
theorem wk_str {G : Hp} {z : Str} : Wk K ca (Its z) G (z.cps.toList.map fun c => .str ⟨#[c]⟩) where
  go := fun i H s hi => by
    rw [List.length_map, Array.length_toList] at hi
    exact hi
  stop := fun i H s hi => by
    rw [List.length_map, Array.length_toList] at hi
    exact Nat.le_of_eq hi.symm
  yld := fun i Hb G1 H x H' s1 sb s hi ⟨e, c, q1, q2⟩ => by
    subst e q2
    refine ⟨.str ⟨#[c]⟩, G1, ?_, .refl s, .str _⟩
    rw [List.getElem?_map, Array.getElem?_toList, q1]
    rfl
theorem wk_range {G : Hp} {lo : Int} {n : Nat} : Wk K ca (Itr lo n) G (rangeD lo n) where
  go := fun i H s hi => by rwa [rangeD_length] at hi
  stop := fun i H s hi => by rw [rangeD_length] at hi; exact Nat.le_of_eq hi.symm
  yld := fun i Hb G1 H x H' s1 sb s hi ⟨e, q⟩ => by
    subst e q
    rw [rangeD_length] at hi
    refine ⟨.int (lo + i), G1, ?_, .refl s, .int _⟩
    simp [rangeD, hi]
theorem wk_down {G : Hp} {lo : Int} {n : Nat} : Wk K ca (Itc lo (-1) n) G (downD lo n) where
  go := fun i H s hi => by rwa [downD_length] at hi
  stop := fun i H s hi => by rw [downD_length] at hi; exact Nat.le_of_eq hi.symm
  yld := fun i Hb G1 H x H' s1 sb s hi ⟨e, q⟩ => by
    subst e q
    rw [downD_length] at hi
    refine ⟨.int (lo + (i : Int) * -1), G1, ?_, .refl s, .int _⟩
    simp [downD, hi]
theorem wk_step {G : Hp} {lo c : Int} {n : Nat} : Wk K ca (Itc lo c n) G (stepD lo c n) where
  go := fun i H s hi => by rwa [stepD_length] at hi
  stop := fun i H s hi => by rw [stepD_length] at hi; exact Nat.le_of_eq hi.symm
  yld := fun i Hb G1 H x H' s1 sb s hi ⟨e, q⟩ => by
    subst e q
    rw [stepD_length] at hi
    refine ⟨.int (lo + (i : Int) * c), G1, ?_, .refl s, .int _⟩
    simp [stepD, hi]
/-- enumerate(xs) -/
def enumD (xs : List D) : List D := (List.range xs.length).zipWith (fun (k : Nat) x => .tup [.int (k : Int), x]) xs
theorem enumD_length (xs : List D) : (enumD xs).length = xs.length := by simp [enumD]
theorem wk_enum {G : Hp} {a : Addr} {vs : List V} {xs : List D} (h : SqL K G a vs) (r : RL K ca G vs xs) : Wk K ca (Ite K a) G (enumD xs) where
  go := fun i H s hi => by
    rw [enumD_length] at hi
    exact ⟨vs, vs[i]'(by rw [r.length]; exact hi), Same.sqL s h, by simp⟩
  stop := fun i H s hi => ⟨vs, Same.sqL s h, by rw [enumD_length] at hi; rw [r.length]; omega⟩
  yld := fun i Hb G1 H x H' s1 sb s hi ⟨T, w, ex, hT, eH, q⟩ => by
    subst ex eH
    rw [enumD_length] at hi
    obtain ⟨d, q1, q2⟩ := r.get' (q vs (Same.sqL (s1.trans s) h))
    have g := Gb.alloc (Hb := Hb) (o := .tup [.int (i : Nat), w]) s sb hT
    refine ⟨.tup [.int (i : Int), d], _, ?_, g, R.newT (s.free hT) (.cons (.int _) (.cons (q2.mono s1) .nil))⟩
    simp [enumD, List.getElem?_zipWith, q1, hi]
    exact (List.getElem?_eq_some_iff.mp q1).2
end
section
variable {X : Cx} {ca : Nat → Addr} {W : WX} {ρ : Env} {tg e : Expr} {ma : Res D} {mas : Res (List D)} {p pos : Pos} {es : List Expr} {a b c : Expr}
theorem i_seq (he : PE X e (tD X.K ca W ρ ma)) : PI X tg e (tIt X.K ca W ρ (ma >>= fun x => D.seq x)) :=
  PI.of (PI.two (pi_list he) (PI.two (pi_tup he) (pi_str he))) fun σ H Q ⟨Hb, G, h⟩ => by
    -- the value's kind is known by the result
    cases hm : ma with
    | bug => exact (h.nb (by rw [hm]; rfl)).elim
    | exc k =>
      subst hm
      exact .inl ⟨Hb, G, h.cut fun x G1 H1 ex => by cases ex⟩
    | ok x =>
      subst hm
      cases x with
      | lst xs => exact .inl ⟨Hb, G, h.cut fun y G1 H1 ey g1 h1 v rv => by
          cases ey
          cases rv with
          | lst q1 q2 => exact ⟨_, rfl, ⟨_, Same.sqL h1.sub q1⟩, h1.done _ (wk_list q1 q2)⟩⟩
      | tup xs => exact .inr (.inl ⟨Hb, G, h.cut fun y G1 H1 ey g1 h1 v rv => by
          cases ey
          cases rv with
          | tup q1 q2 => exact ⟨_, rfl, ⟨_, Same.sqT h1.sub q1⟩, h1.done _ (wk_tup q1 q2)⟩⟩)
      | str z => exact .inr (.inr ⟨Hb, G, h.cut fun y G1 H1 ey g1 h1 v rv => by
          cases ey
          cases rv
          exact ⟨z, rfl, h1.done _ wk_str⟩⟩)
      | _ => exact (h.nb rfl).elim
theorem inB_of {i : Int} (h : inB i = true) : -(2 ^ 62) ≤ i ∧ i < 2 ^ 62 := by
  have q := of_decide_eq_true h
  omega
theorem i_range1 (hg : Gl X "range") (hm : X.mg "range" = none) (ha : PA X [a] (tArg X.K ca W ρ mas)) (hs : starEach [a] X.env = [(false, eval a X.env)] := by rfl) :
    PI X tg (.Call (.Name "range" p) [a] [] pos) (tIt X.K ca W ρ (mas >>= fun xs => D.range1 xs)) :=
  PI.of (pi_range1 hg hm ha hs) fun σ H Q ⟨Hb, G, h⟩ => ⟨Hb, G, h.cut fun xs G1 H1 _ g1 h1 vs rvs => by
    obtain ⟨x, v, rfl, rfl, r1⟩ := RL.one h1.nb rvs
    cases x with
    | int j =>
      cases r1
      by_cases hc : inB j = true
      · have := inB_of hc
        exact ⟨j, rfl, by omega, by omega, h1.ok _ (if_pos hc) _ _ (.refl h1.sub) _ wk_range⟩
      · exact (h1.nb (if_neg hc)).elim
    | _ => exact (h1.nb rfl).elim⟩
theorem i_range2 (hg : Gl X "range") (hm : X.mg "range" = none) (ha : PA X [a, b] (tArg X.K ca W ρ mas)) (hs : starEach [a, b] X.env = [(false, eval a X.env), (false, eval b X.env)] := by rfl) (hs2 : starEach [b] X.env = [(false, eval b X.env)] := by rfl) :
    PI X tg (.Call (.Name "range" p) [a, b] [] pos) (tIt X.K ca W ρ (mas >>= fun xs => D.range2 xs)) :=
  PI.of (pi_range2 hg hm ha hs hs2) fun σ H Q ⟨Hb, G, h⟩ => ⟨Hb, G, h.cut fun xs G1 H1 _ g1 h1 vs rvs => by
    obtain ⟨i, j, rfl, rfl⟩ := RL.two' h1.nb rvs
    by_cases hc : (inB i && inB j) = true
    · have hc' := Bool.and_eq_true_iff.mp hc
      have := inB_of hc'.1
      have := inB_of hc'.2
      exact ⟨i, j, rfl, ⟨by omega, by omega, by omega, by omega⟩, h1.ok _ (if_pos hc) _ _ (.refl h1.sub) _ wk_range⟩
    · exact (h1.nb (if_neg hc)).elim⟩
theorem i_range3 (hg : Gl X "range") (hm : X.mg "range" = none) (ha : PA X [a, b, c] (tArg X.K ca W ρ mas))
    (hs : starEach [a, b, c] X.env = (false, eval a X.env) :: starEach [b, c] X.env := by rfl) (hpl : (backTo pos (starEach [b, c] X.env)).any (·.1) = false := by rfl) :
    PI X tg (.Call (.Name "range" p) [a, b, c] [] pos) (tIt X.K ca W ρ (mas >>= fun xs => D.range3 xs)) :=
  PI.of (pi_range3 hg hm ha hs hpl) fun σ H Q ⟨Hb, G, h⟩ => ⟨Hb, G, h.cut fun xs G1 H1 _ g1 h1 vs rvs => by
    have inv : ∀ {xs : List D} {vs : List V}, D.range3 xs ≠ .bug → RL X.K ca G1 vs xs → ∃ i j c, xs = [.int i, .int j, .int c] ∧ vs = [.int i, .int j, .int c] := fun {xs vs} nb r => by
      unfold D.range3 at nb
      split at nb
      · cases r with
        | cons r1 r => cases r with
          | cons r2 r => cases r with
            | cons r3 r =>
              cases r; cases r1; cases r2; cases r3
              exact ⟨_, _, _, rfl, rfl⟩
      · exact (nb rfl).elim
    obtain ⟨i, j, k, rfl, rfl⟩ := inv h1.nb rvs
    by_cases hc : (inB i && inB j && decide (k = -1)) = true
    · have hc' := Bool.and_eq_true_iff.mp hc
      have hc2 := Bool.and_eq_true_iff.mp hc'.1
      have := inB_of hc2.1
      have := inB_of hc2.2
      have ek : k = -1 := of_decide_eq_true hc'.2
      subst ek
      exact ⟨i, j, -1, (i - j).toNat, rfl, RgC.neg (by omega) (by omega) (by omega) (by omega), h1.ok _ (if_pos hc) _ _ (.refl h1.sub) _ wk_down⟩
    · by_cases hd : (inB i && inB j && decide (1 ≤ k ∧ k ≤ 1000)) = true
      · have hd' := Bool.and_eq_true_iff.mp hd
        have hd2 := Bool.and_eq_true_iff.mp hd'.1
        have kb := of_decide_eq_true hd'.2
        exact ⟨i, j, k, stepN i j k, rfl, rg_up (inB_of hd2.1) (inB_of hd2.2) kb.1 kb.2, h1.ok _ (range3_up hd2.1 hd2.2 kb.1 kb.2) _ _ (.refl h1.sub) _ wk_step⟩
      · exact (h1.nb ((if_neg hc).trans (if_neg hd))).elim⟩
def D.enum : List D → Res (List D) := one fun
  | .lst xs => .ok (enumD xs)
  | _ => .bug
@[simp] theorem enum_lst (xs : List D) : D.enum [.lst xs] = .ok (enumD xs) := rfl
theorem i_enum {elts : List Expr} {kk : Nat} {tpos : Pos} (hg : Gl X "enumerate") (hm : X.mg "enumerate" = none) (ha : PA X [a] (tArg X.K ca W ρ mas)) (hs : starEach [a] X.env = [(false, eval a X.env)] := by rfl) :
    PI X (.Tuple elts kk tpos) (.Call (.Name "enumerate" p) [a] [] pos) (tIt X.K ca W ρ (mas >>= fun xs => D.enum xs)) :=
  PI.of (pi_enum hg hm ha hs) fun σ H Q ⟨Hb, G, h⟩ => ⟨Hb, G, h.cut fun xs G1 H1 _ g1 h1 vs rvs => by
    obtain ⟨x, v, rfl, rfl, r1⟩ := RL.one h1.nb rvs
    cases x with
    | lst ys =>
      cases r1 with
      | lst q1 q2 => exact ⟨_, _, rfl, Same.sqL h1.sub q1, h1.done _ (wk_enum q1 q2)⟩
    | _ => exact (h1.nb rfl).elim⟩
end
/-! ### for -/
def loopR {S B T : Type} (step : S → D → Res (Out S S T)) : List D → S → Res (Out S B T)
  | [], s => .ok (.nx s)
  | x :: xs, s => step s x >>= fun
    | .nx s' => loopR step xs s'
    | .ct s' => loopR step xs s'
    | .bk s' => .ok (.nx s')
    | .rt r => .ok (.rt r)
    | .ra c os => .ok (.ra c os)
@[simp] theorem loopR_nil {S B T : Type} (step : S → D → Res (Out S S T)) (s : S) : (loopR step [] s : Res (Out S B T)) = .ok (.nx s) := rfl
section
variable {X : Cx} {ca : Nat → Addr} {S B T : Type} {W : WX} {ρ : Env} {ρx : EX} {emb : S → Env} {embB : B → Env} {out : T → RtP} {tg iter : Expr} {body rest : List Stmt} {pos : Pos} {mi : Res (List D)} {step : S → D → Res (Out S S T)} {s0 : S}
/-- the body's reading, for any target -/
theorem s_for {g : TG} {tb : TS} (hp : PassesOwn (model X.prog X.w) X.A X.env X.xe) (hc : X.calm = true) (hi : PI X tg iter (tIt X.K ca W ρ mi)) (hg : PG X tg g) (hb : PSs X body tb) (le : Env.le ρx.e ρ) (le0 : Env.le (emb s0) ρ)
    (turn : ∀ (s : S) (x : D) (D : Ends) (G H : Hp) (σ : L2.St) (f : Nat → AS) (v : V), EnvOk X.K ca G H σ (emb s) f → R X.K ca G v x → So X.K ca W ρx emb emb out D G H (All f) (step s x) → g v σ H fun σ2 H2 => tb D σ2 H2)
    (hs : ∀ x, foldedSetIterable iter X.env x = pure x := by intro _; rfl) : PS X (.For tg iter body [] pos) (tS X.K ca W ρx emb embB out ρ (mi >>= fun xs => loopR step xs s0)) :=
  PS.of (ps_for hp hc hi hg hb hs) fun D0 σ H ⟨G, f, E, hq⟩ => ⟨H, G, hq.expr E le fun xs G1 H1 ex g1 E1 h1 J wk => by
    refine ⟨fun i m σ' H' => m = xs.length - i ∧ i ≤ xs.length ∧ ∃ s G' f', EnvOk X.K ca G' H' σ' (emb s) f' ∧ Same G1 G' ∧ So X.K ca W ρx emb embB out D0 G' H' (All f') (loopR step (xs.drop i) s),
      ⟨xs.length, rfl, Nat.zero_le _, s0, G1, f, E1.weak le0, Same.refl _, h1⟩, ?_⟩
    rintro i m σ' H' ⟨rfl, hi', s, G', f', E', sG, hq'⟩
    by_cases hlt : i < xs.length
    · refine .inr ⟨wk.go i H' (sG.trans E'.sub) hlt, fun σ2 H2 => ∃ s2 G2 f2, EnvOk X.K ca G2 H2 σ2 (emb s2) f2 ∧ Same G1 G2 ∧ So X.K ca W ρx emb embB out D0 G2 H2 (All f2) (loopR step (xs.drop (i + 1)) s2), fun σ2 H2 n2 => ⟨xs.length - (i + 1), by omega, rfl, hlt, n2⟩, fun v H2 y => ?_⟩
      obtain ⟨d, G2, e1, gb, rv⟩ := wk.yld i H' G' H' v H2 sG (Same.refl _) E'.sub hlt y
      have hf : ∀ i a, f' i a → ∃ u, H' a = some u := fun i a q => (E'.out i a q).2
      have E2 := E'.gb hf gb
      have ed : xs.drop i = d :: xs.drop (i + 1) := by
        rw [List.drop_eq_getElem_cons hlt]
        have := (List.getElem?_eq_some_iff.mp e1).2
        rw [this]
      rw [ed] at hq'
      have hq2 := hq'.on (Evo.of_grow gb.grow : Evo G' H' (All f') G2 H2 (All f'))
      refine turn s d _ G2 H2 σ' f' v E2 rv ⟨fun z => hq2.nb (by simp only [loopR, z]; rfl), fun s2 z σ3 G3 H3 f3 v3 E3 => ?_, fun s2 z σ3 G3 H3 f3 v3 E3 => ?_, fun s2 z σ3 G3 H3 f3 v3 E3 => ?_, fun r z => hq2.rt r (by simp only [loopR, z]; rfl), fun c z => hq2.ex c (by simp only [loopR, z]; rfl), fun c os z => hq2.ra c os (by simp only [loopR, z]; rfl)⟩
      · exact ⟨s2, G3, f3, E3, (sG.trans gb.g).trans v3.g, So.step (m := step s d) (a := .nx s2) hq2 z v3⟩
      · exact hq2.nx s2 (by simp only [loopR, z]; rfl) σ3 G3 H3 f3 v3 E3
      · exact ⟨s2, G3, f3, E3, (sG.trans gb.g).trans v3.g, So.step (m := step s d) (a := .ct s2) hq2 z v3⟩
    · have ei : i = xs.length := by omega
      refine .inl ⟨wk.stop i H' (sG.trans E'.sub) ei, ?_⟩
      have ed : xs.drop i = [] := by rw [ei]; exact List.drop_length
      rw [ed] at hq'
      exact hq'.nx s rfl σ' G' H' f' (.refl E'.sub) E'⟩
/-- the target a name -/
theorem s_forN {i : Nat} {n : Str} {p : Pos} (hp : PassesOwn (model X.prog X.w) X.A X.env X.xe) (hc : X.calm = true) (hi : PI X (.Name n p) iter (tIt X.K ca W ρ mi)) (hN : X.N.Nodup) (hn : X.N[i]? = some n) (hx : Loc X.env.scope n) (le : Env.le ρx.e ρ) (le0 : Env.le (emb s0) ρ)
    (hb : ∀ s x, PSs X body (tS X.K ca W ρx emb emb out ((emb s).set i (some (.d x))) (step s x)))
    (hs : ∀ x, foldedSetIterable iter X.env x = pure x := by intro _; rfl) (hf : X.fn n = true ∨ X.env.scope.names.lookup n = some .local := by first | exact .inl rfl | exact .inr rfl | assumption) :
    PS X (.For (.Name n p) iter body [] pos) (tS X.K ca W ρx emb embB out ρ (mi >>= fun xs => loopR step xs s0)) := by
  refine s_for (g := gName i) (tb := fun D σ H => ∃ s x σ0 v G f, σ = σ0.set i (some v) ∧ EnvOk X.K ca G H σ0 (emb s) f ∧ R X.K ca G v x ∧ So X.K ca W ρx emb emb out D G H (All f) (step s x)) hp hc hi (pg_name hN hn hx hf) ?_ le le0 (fun s x D G H σ f v E r h => ⟨s, x, σ, v, G, f, rfl, E, r, h⟩) hs
  refine ⟨fun pins s0 σ H D I ⟨s, x, σ0, v, G, f, es, E, r, h⟩ => (hb s x).run pins s0 σ H D I ?_⟩
  subst es
  have hl := I.len
  rw [List.length_set] at hl
  have hiσ : i < σ0.length := by rw [hl]; exact (List.getElem?_eq_some_iff.mp hn).1
  exact ⟨G, _, E.put hiσ r, h.on ((Evo.refl E.sub).less fun x z => (all_put z).elim False.elim id)⟩
def un2 {α : Type} (f : D → D → Res α) : D → Res α
  | .tup [a, b] => f a b
  | _ => .bug
def un3 {α : Type} (f : D → D → D → Res α) : D → Res α
  | .tup [a, b, c] => f a b c
  | _ => .bug
@[simp] theorem un2_eq {α : Type} (f : D → D → Res α) (a b : D) : un2 f (.tup [a, b]) = f a b := rfl
@[simp] theorem un3_eq {α : Type} (f : D → D → D → Res α) (a b c : D) : un3 f (.tup [a, b, c]) = f a b c := rfl
theorem un2_inv {α : Type} {f : D → D → Res α} {x : D} (h : un2 f x ≠ .bug) : ∃ a b, x = .tup [a, b] := by
  unfold un2 at h
  split at h
  · exact ⟨_, _, rfl⟩
  · exact (h rfl).elim
theorem un3_inv {α : Type} {f : D → D → D → Res α} {x : D} (h : un3 f x ≠ .bug) : ∃ a b c, x = .tup [a, b, c] := by
  unfold un3 at h
  split at h
  · exact ⟨_, _, _, rfl⟩
  · exact (h rfl).elim
theorem s_forT2 {step : S → D → D → Res (Out S S T)} {i j : Nat} {n m : Str} {p q t : Pos} {kk : Nat} (hp : PassesOwn (model X.prog X.w) X.A X.env X.xe) (hc : X.calm = true) (hi : PI X (.Tuple [.Name n p, .Name m q] kk t) iter (tIt X.K ca W ρ mi)) (hN : X.N.Nodup)
    (hn : X.N[i]? = some n) (hx : Loc X.env.scope n) (hm : X.N[j]? = some m) (hy : Loc X.env.scope m) (le : Env.le ρx.e ρ) (le0 : Env.le (emb s0) ρ)
    (hb : ∀ s x y, PSs X body (tS X.K ca W ρx emb emb out (((emb s).set i (some (.d x))).set j (some (.d y))) (step s x y)))
    (hs : ∀ x, foldedSetIterable iter X.env x = pure x := by intro _; rfl) (hf : X.fn n = true ∨ X.env.scope.names.lookup n = some .local := by first | exact .inl rfl | exact .inr rfl | assumption)
    (hf2 : X.fn m = true ∨ X.env.scope.names.lookup m = some .local := by first | exact .inl rfl | exact .inr rfl | assumption) :
    PS X (.For (.Tuple [.Name n p, .Name m q] kk t) iter body [] pos) (tS X.K ca W ρx emb embB out ρ (mi >>= fun xs => loopR (fun s => un2 (step s)) xs s0)) := by
  refine s_for (g := gTup X.K 2 (gCons (gName i) (gCons (gName j) gNil))) (tb := fun D σ H => ∃ s x y σ0 v w G f, σ = (σ0.set i (some v)).set j (some w) ∧ EnvOk X.K ca G H σ0 (emb s) f ∧ R X.K ca G v x ∧ R X.K ca G w y ∧ So X.K ca W ρx emb emb out D G H (All f) (step s x y)) hp hc hi
    (pg_tup hc (pgs_cons (pg_name hN hn hx hf) (pgs_cons (pg_name hN hm hy hf2) pgs_nil))) ?_ le le0 (fun s x D G H σ f v E r h => ?_) hs
  · refine ⟨fun pins s0 σ H D I ⟨s, x, y, σ0, v, w, G, f, es, E, r, r2, h⟩ => (hb s x y).run pins s0 σ H D I ?_⟩
    subst es
    have hl := I.len
    rw [List.length_set, List.length_set] at hl
    have hiσ : i < σ0.length := by rw [hl]; exact (List.getElem?_eq_some_iff.mp hn).1
    have hjσ : j < (σ0.set i (some v)).length := by rw [List.length_set, hl]; exact (List.getElem?_eq_some_iff.mp hm).1
    have E1 := (E.put hiσ r).put hjσ r2
    exact ⟨G, _, E1, h.on ((Evo.refl E.sub).less fun x z => (all_put z).elim False.elim fun z => (all_put z).elim False.elim id)⟩
  · obtain ⟨a, b, rfl⟩ := un2_inv h.nb
    cases r with
    | tup q1 q2 =>
      cases q2 with
      | cons r1 q2 => cases q2 with
        | cons r2 q2 =>
          cases q2
          exact ⟨_, _, rfl, Same.sqT E.sub q1, rfl, _, _, rfl, _, _, rfl, rfl, s, a, b, σ, _, _, G, f, rfl, E, r1, r2, h⟩
theorem s_forT3 {step : S → D → D → D → Res (Out S S T)} {i j l : Nat} {n m o : Str} {p q u t : Pos} {kk : Nat} (hp : PassesOwn (model X.prog X.w) X.A X.env X.xe) (hc : X.calm = true) (hi : PI X (.Tuple [.Name n p, .Name m q, .Name o u] kk t) iter (tIt X.K ca W ρ mi)) (hN : X.N.Nodup)
    (hn : X.N[i]? = some n) (hx : Loc X.env.scope n) (hm : X.N[j]? = some m) (hy : Loc X.env.scope m) (ho : X.N[l]? = some o) (hz : Loc X.env.scope o) (le : Env.le ρx.e ρ) (le0 : Env.le (emb s0) ρ)
    (hb : ∀ s x y z, PSs X body (tS X.K ca W ρx emb emb out ((((emb s).set i (some (.d x))).set j (some (.d y))).set l (some (.d z))) (step s x y z)))
    (hs : ∀ x, foldedSetIterable iter X.env x = pure x := by intro _; rfl) (hf : X.fn n = true ∨ X.env.scope.names.lookup n = some .local := by first | exact .inl rfl | exact .inr rfl | assumption)
    (hf2 : X.fn m = true ∨ X.env.scope.names.lookup m = some .local := by first | exact .inl rfl | exact .inr rfl | assumption) (hf3 : X.fn o = true ∨ X.env.scope.names.lookup o = some .local := by first | exact .inl rfl | exact .inr rfl | assumption) :
    PS X (.For (.Tuple [.Name n p, .Name m q, .Name o u] kk t) iter body [] pos) (tS X.K ca W ρx emb embB out ρ (mi >>= fun xs => loopR (fun s => un3 (step s)) xs s0)) := by
  refine s_for (g := gTup X.K 3 (gCons (gName i) (gCons (gName j) (gCons (gName l) gNil)))) (tb := fun D σ H => ∃ s x y z σ0 v w w2 G f, σ = ((σ0.set i (some v)).set j (some w)).set l (some w2) ∧ EnvOk X.K ca G H σ0 (emb s) f ∧ R X.K ca G v x ∧ R X.K ca G w y ∧ R X.K ca G w2 z ∧ So X.K ca W ρx emb emb out D G H (All f) (step s x y z)) hp hc hi
    (pg_tup hc (pgs_cons (pg_name hN hn hx hf) (pgs_cons (pg_name hN hm hy hf2) (pgs_cons (pg_name hN ho hz hf3) pgs_nil)))) ?_ le le0 (fun s x D G H σ f v E r h => ?_) hs
  · refine ⟨fun pins s0 σ H D I ⟨s, x, y, z, σ0, v, w, w2, G, f, es, E, r, r2, r3, h⟩ => (hb s x y z).run pins s0 σ H D I ?_⟩
    subst es
    have hl := I.len
    rw [List.length_set, List.length_set, List.length_set] at hl
    have hiσ : i < σ0.length := by rw [hl]; exact (List.getElem?_eq_some_iff.mp hn).1
    have hjσ : j < (σ0.set i (some v)).length := by rw [List.length_set, hl]; exact (List.getElem?_eq_some_iff.mp hm).1
    have hlσ : l < ((σ0.set i (some v)).set j (some w)).length := by rw [List.length_set, List.length_set, hl]; exact (List.getElem?_eq_some_iff.mp ho).1
    have E1 := ((E.put hiσ r).put hjσ r2).put hlσ r3
    exact ⟨G, _, E1, h.on ((Evo.refl E.sub).less fun x z => (all_put z).elim False.elim fun z => (all_put z).elim False.elim fun z => (all_put z).elim False.elim id)⟩
  · obtain ⟨a, b, c, rfl⟩ := un3_inv h.nb
    cases r with
    | tup q1 q2 =>
      cases q2 with
      | cons r1 q2 => cases q2 with
        | cons r2 q2 => cases q2 with
          | cons r3 q2 =>
            cases q2
            exact ⟨_, _, rfl, Same.sqT E.sub q1, rfl, _, _, rfl, _, _, rfl, _, _, rfl, rfl, s, a, b, c, σ, _, _, _, G, f, rfl, E, r1, r2, r3, h⟩
/-! ### while -/
def whileR {S B T : Type} (test : S → Res Bool) (bodyR : S → Res (Out S S T)) : Nat → S → Res (Out S B T)
  | 0, _ => .bug
  | n + 1, s => test s >>= fun b => if b then bodyR s >>= fun
      | .nx s' => whileR test bodyR n s'
      | .ct s' => whileR test bodyR n s'
      | .bk s' => .ok (.nx s')
      | .rt r => .ok (.rt r)
      | .ra c os => .ok (.ra c os)
    else .ok (.nx s)
theorem _root_.L2.PT.any {X : Cx} {ι : Type} {e : Expr} {t : ι → TT} (h : ∀ i, PT X e (t i)) : PT X e (fun σ H Q => ∃ i, t i σ H Q) := ⟨fun pins s σ H Q I ⟨i, q⟩ => (h i).run pins s σ H Q I q⟩
theorem s_while {test : Expr} {mt : S → Res Bool} {mb : S → Res (Out S S T)} {fuel : Nat} (hp : PassesOwn (model X.prog X.w) X.A X.env X.xe) (ht : ∀ s, PT X test (tB X.K ca W (emb s) (mt s))) (hb : ∀ s, PSs X body (tS X.K ca W ρx emb emb out (emb s) (mb s))) (lx : ∀ s, Env.le ρx.e (emb s)) (le0 : Env.le (emb s0) ρ) :
    PS X (.While test body [] pos) (tS X.K ca W ρx emb embB out ρ (whileR mt mb fuel s0)) :=
  PS.of (ps_while hp (L2.PT.any ht) (PSs.any hb)) fun D0 σ H ⟨G, f, E, hq⟩ => by
    refine ⟨fun m σ' H' => ∃ s G' f', EnvOk X.K ca G' H' σ' (emb s) f' ∧ So X.K ca W ρx emb embB out D0 G' H' (All f') (whileR mt mb m s), ⟨fuel, s0, G, f, E.weak le0, hq⟩, ?_⟩
    rintro m σ' H' ⟨s, G', f', E', h'⟩
    cases m with
    | zero => exact (h'.nb rfl).elim
    | succ m =>
      refine ⟨s, H', G', So.expr h' E' (lx s) fun b G1 H1 eb g1 E1 h1 => ?_⟩
      cases b with
      | true =>
        refine ⟨fun σ2 H2 => ∃ s2 G2 f2, EnvOk X.K ca G2 H2 σ2 (emb s2) f2 ∧ So X.K ca W ρx emb embB out D0 G2 H2 (All f2) (whileR mt mb m s2), fun σ2 H2 n2 => ⟨m, Nat.lt_succ_self _, n2⟩, s, G1, f', E1, ?_⟩
        refine ⟨fun z => h1.nb (by rw [z]; rfl), fun s2 z σ3 G3 H3 f3 v3 E3 => ⟨s2, G3, f3, E3, h1.step z v3⟩, fun s2 z σ3 G3 H3 f3 v3 E3 => ?_, fun s2 z σ3 G3 H3 f3 v3 E3 => ⟨s2, G3, f3, E3, h1.step z v3⟩, fun r z => h1.rt r (by rw [z]; rfl), fun c z => h1.ex c (by rw [z]; rfl), fun c os z => h1.ra c os (by rw [z]; rfl)⟩
        exact h1.nx s2 (by rw [z]; rfl) σ3 G3 H3 f3 v3 E3
      | false => exact h1.nx s rfl σ' G1 H1 f' (.refl E1.sub) E1
end
end Lk
namespace Lk
open PySem PySem.Spec PyProof.Rows L2
/-! ### comprehensions -/
/-- nothing may be raised within -/
def Res.nox {α : Type} : Res α → Res α
  | .ok a => .ok a
  | _ => .bug
@[simp] theorem nox_ok {α : Type} (a : α) : Res.nox (.ok a) = .ok a := rfl
@[simp] theorem nox_bug {α : Type} : Res.nox (.bug : Res α) = .bug := rfl
def compR (F : D → Res (Option D)) : List D → Res (List D)
  | [] => .ok []
  | x :: xs => Res.nox (F x) >>= fun o => compR F xs >>= fun ys => .ok (match o with | some y => y :: ys | none => ys)
def mapR (F : D → Res D) : List D → Res (List D)
  | [] => .ok []
  | x :: xs => Res.nox (F x) >>= fun y => mapR F xs >>= fun ys => .ok (y :: ys)
@[simp] theorem compR_nil (F : D → Res (Option D)) : compR F [] = .ok [] := rfl
@[simp] theorem mapR_nil (F : D → Res D) : mapR F [] = .ok [] := rfl
theorem mapR_comp (F : D → Res D) : ∀ xs, mapR F xs = compR (fun x => F x >>= fun y => .ok (some y)) xs
  | [] => rfl
  | x :: xs => by
    simp only [mapR, compR, mapR_comp F xs]
    cases F x <;> rfl
theorem compR_ok {F : D → Res (Option D)} : ∀ {xs : List D}, compR F xs ≠ .bug → ∃ ys, compR F xs = .ok ys
  | [], _ => ⟨[], rfl⟩
  | x :: xs, h => by
    cases e : Res.nox (F x) with
    | bug => exact (h (by simp only [compR, e]; rfl)).elim
    | exc c => cases q : F x <;> rw [q] at e <;> cases e
    | ok o =>
      obtain ⟨ys, q⟩ := compR_ok (F := F) (xs := xs) (fun z => h (by simp only [compR, e, z]; rfl))
      exact ⟨_, by simp only [compR, e, q]; rfl⟩
theorem mapR_map {F : D → Res D} {g : D → D} : ∀ {xs : List D}, (∀ x ∈ xs, F x = .ok (g x)) → mapR F xs = .ok (xs.map g)
  | [], _ => rfl
  | x :: xs, h => by
    simp only [mapR, h x List.mem_cons_self, mapR_map (F := F) (g := g) fun y hy => h y (List.mem_cons_of_mem _ hy)]
    rfl
def lcSize (xs : List D) : Res (List D) := if xs.length ≤ 100000 then .ok xs else .bug
theorem lcSize_ok {xs : List D} (h : xs.length ≤ 100000) : lcSize xs = .ok xs := if_pos h
theorem wipe_get {σ : L2.St} {i : Nat} : ∀ {vs : List Nat}, i ∉ vs → (wipe σ vs)[i]? = σ[i]?
  | [], _ => rfl
  | v :: vs, h => by
    unfold wipe
    rw [List.getElem?_set_ne (fun e => h (by rw [e]; exact List.mem_cons_self))]
    exact wipe_get fun z => h (List.mem_cons_of_mem _ z)
theorem wipe_at {σ : L2.St} {i : Nat} : ∀ {vs : List Nat}, i ∈ vs → (wipe σ vs)[i]? = if i < σ.length then some none else none
  | v :: vs, h => by
    unfold wipe
    by_cases e : v = i
    · subst e
      rw [List.getElem?_set]
      simp [wipe_length]
    · rw [List.getElem?_set_ne e]
      exact wipe_at ((List.mem_cons.mp h).resolve_left (Ne.symm e))
/-- what changes at wiped slots alone is the same when wiped -/
theorem wipe_eq {σ τ : L2.St} {vs : List Nat} (hl : τ.length = σ.length) (h : ∀ i, i ∉ vs → τ[i]? = (wipe σ vs)[i]?) : wipe τ vs = wipe σ vs := by
  refine List.ext_getElem? fun i => ?_
  by_cases hi : i ∈ vs
  · rw [wipe_at hi, wipe_at hi, hl]
  · rw [wipe_get hi, h i hi]
def clearE (ρ : Env) (vs : List Nat) : Bool := vs.all fun j => match ρ[j]? with | some (some _) => false | _ => true
theorem clearE_not {ρ : Env} {vs : List Nat} (h : clearE ρ vs = true) {i : Nat} {o : O} (e : ρ[i]? = some (some o)) : i ∉ vs := fun hi => by
  have q := List.all_eq_true.mp h i hi
  simp only [e] at q
  cases q
section
variable {X : Cx} {ca : Nat → Addr} {W : WX} {ρ : Env} {tg iter elt : Expr} {ifs : List Expr} {scope : Scope} {own : List (Str × Nat)} {pos : Pos} {mi : Res (List D)} {F : D → Res (Option D)}
abbrev W0 : WX := fun _ _ _ _ => False
theorem EnvOk.wiped {K : PySem.W.Frag} {G H : Hp} {σ : L2.St} {f : Nat → AS} {vs : List Nat} (E : EnvOk K ca G H σ ρ f) (hc : clearE ρ vs = true) : EnvOk K ca G H (wipe σ vs) ρ f :=
  ⟨E.sub, fun i o h => by
    obtain ⟨v, q1, q2⟩ := E.slot i o h
    exact ⟨v, by rw [wipe_get (clearE_not hc h)]; exact q1, q2⟩, E.sep, E.out⟩
/-- the reading of a comprehension's turn -/
def LcTurn (X : Cx) (ca : Nat → Addr) (ρ : Env) (vs : List Nat) (g : TG) (tt : TT) (te : TE) (F : D → Res (Option D)) : Prop :=
  ∀ (σ : L2.St) (x : D) (G H : Hp) (f : Nat → AS) (v : V) (Ky : V → Hp → Prop) (Kn : Hp → Prop), σ.length = X.N.length → EnvOk X.K ca G H (wipe σ vs) ρ f → R X.K ca G v x → Res.nox (F x) ≠ .bug →
    (∀ y G' H', Res.nox (F x) = .ok (some y) → Gb H G H G' H' → ∀ w, R X.K ca G' w y → Ky w H') → (∀ G' H', Res.nox (F x) = .ok none → Gb H G H G' H' → Kn H') →
    g v (wipe σ vs) H fun σ2 H2 => wipe σ2 vs = wipe σ vs ∧ tt σ2 H2 fun b H3 => if b = true then te σ2 H3 fun y H4 => Ky y H4 else Kn H3
theorem lc_read {g : TG} {tt : TT} {te : TE} {vs : List Nat} {ρi : Env} (lei : Env.le ρi ρ) (tn : LcTurn X ca ρi vs g tt te F) (hc : clearE ρi vs = true) {σ : L2.St} {H : Hp} {Q : VK} (hl : σ.length = X.N.length)
    (hq : tL X.K ca W ρ (mi >>= fun xs => lcSize xs >>= fun xs => compR F xs) σ H Q) : tLc (tIt X.K ca W ρ mi) g tt te vs σ H Q := by
  obtain ⟨Hb, G, h⟩ := hq
  refine ⟨Hb, G, h.cut fun xs G1 H1 ex g1 h1 J wk Dd hD => ?_⟩
  have hz : xs.length ≤ 100000 := by
    by_cases hz : xs.length ≤ 100000
    · exact hz
    · exact (h1.nb (by unfold lcSize; rw [if_neg hz]; rfl)).elim
  rw [lcSize_ok hz] at h1
  obtain ⟨ys, ey⟩ := compR_ok h1.nb
  obtain ⟨f, E, hf⟩ := h1.env
  have gD : G1 Dd = none := h1.sub.free hD
  refine ⟨fun i m H' => m = xs.length - i ∧ i ≤ xs.length ∧ ∃ G' acc rest us, Gb Hb G1 H1 G' H' ∧ compR F (xs.drop i) = .ok rest ∧ acc ++ rest = ys ∧ acc.length ≤ i ∧ H' Dd = some (.lst us) ∧ RL X.K ca G' us acc ∧ G' Dd = none,
    ⟨xs.length, rfl, Nat.zero_le _, G1, [], ys, [], Gb.own h1.sub hD, ey, rfl, Nat.le_refl _, upd_same, .nil, gD⟩, ?_⟩
  rintro i m H' ⟨rfl, hi, G', acc, rest, us, gb, er, ea, la, hu, rl, gd⟩
  by_cases hlt : i < xs.length
  · refine .inr ⟨wk.go i H' (gb.g.trans gb.sub) hlt, fun H'' => i + 1 ≤ xs.length ∧ ∃ G' acc rest us, Gb Hb G1 H1 G' H'' ∧ compR F (xs.drop (i + 1)) = .ok rest ∧ acc ++ rest = ys ∧ acc.length ≤ i + 1 ∧ H'' Dd = some (.lst us) ∧ RL X.K ca G' us acc ∧ G' Dd = none,
      fun H'' n => ⟨xs.length - (i + 1), by omega, rfl, n.1, n.2⟩, fun v H2 y => ?_⟩
    obtain ⟨d, G2, e1, gb2, rv⟩ := wk.yld i H' G' H' v H2 gb.g (Same.refl _) gb.sub hlt y
    have sb' : Same Hb H' := h1.sb.trans gb.h
    have gb2' : Gb Hb G' H' G2 H2 := Gb.of sb' gb2.grow
    have E2 : EnvOk X.K ca G2 H2 σ ρi f := (E.gb hf (gb.trans gb2')).weak lei
    have ed : xs.drop i = d :: xs.drop (i + 1) := by
      rw [List.drop_eq_getElem_cons hlt]
      have := (List.getElem?_eq_some_iff.mp e1).2
      rw [this]
    rw [ed] at er
    have gd2 : G2 Dd = none := by
      cases q : G2 Dd with
      | none => rfl
      | some o =>
        rcases gb2.new Dd o q with z | z
        · rw [gd] at z; cases z
        · rw [hu] at z; cases z
    have nb : Res.nox (F d) ≠ .bug := fun z => by
      simp only [compR, z] at er
      cases er
    refine tn σ d G2 H2 f v _ _ hl (E2.wiped hc) rv nb (fun y G3 H3 ef gb3 w rw' => ?_) (fun G3 H3 ef gb3 => ?_)
    · simp only [compR, ef] at er
      cases q : compR F (xs.drop (i + 1)) with
      | bug => rw [q] at er; cases er
      | exc c => rw [q] at er; cases er
      | ok r2 =>
        rw [q] at er
        have er' : y :: r2 = rest := Res.ok.inj er
        subst er'
        have hu3 : H3 Dd = some (.lst us) := gb3.h _ _ (gb2.h _ _ hu)
        have gd3 : G3 Dd = none := by
          cases q : G3 Dd with
          | none => rfl
          | some o =>
            rcases gb3.new Dd o q with z | z
            · rw [gd2] at z; cases z
            · rw [gb2.h _ _ hu] at z; cases z
        have gb4 : Gb Hb G1 H1 G3 H3 := (gb.trans gb2').trans (Gb.of (sb'.trans gb2.h) gb3.grow)
        refine ⟨us, hu3, Nat.lt_of_le_of_lt (by rw [rl.length]; omega) (Nat.lt_of_lt_of_le (by omega : xs.length < 100001) (by decide)), hlt, G3, acc ++ [y], r2, us ++ [w], ?_, rfl, by rw [← ea, List.append_assoc]; rfl, by rw [List.length_append, List.length_singleton]; omega, upd_same, (rl.mono (gb2.g.trans gb3.g)).append (.cons rw' .nil), gd3⟩
        refine ⟨gb4.g, fun a u z => ?_, fun a u z => ?_, gb4.new⟩
        · rw [upd_ne (ne_of_none z gd3)]; exact gb4.sub a u z
        · rw [upd_ne (ne_of_none z hD)]; exact gb4.h a u z
    · simp only [compR, ef] at er
      cases q : compR F (xs.drop (i + 1)) with
      | bug => rw [q] at er; cases er
      | exc c => rw [q] at er; cases er
      | ok r2 =>
        rw [q] at er
        have er' : r2 = rest := Res.ok.inj er
        subst er'
        have gd3 : G3 Dd = none := by
          cases q : G3 Dd with
          | none => rfl
          | some o =>
            rcases gb3.new Dd o q with z | z
            · rw [gd2] at z; cases z
            · rw [gb2.h _ _ hu] at z; cases z
        exact ⟨hlt, G3, acc, r2, us, (gb.trans gb2').trans (Gb.of (sb'.trans gb2.h) gb3.grow), rfl, ea, by omega, gb3.h _ _ (gb2.h _ _ hu), rl.mono (gb2.g.trans gb3.g), gd3⟩
  · have ei : i = xs.length := by omega
    refine .inl ⟨wk.stop i H' (gb.g.trans gb.sub) ei, ?_⟩
    have ed : xs.drop i = [] := by rw [ei]; exact List.drop_length
    rw [ed] at er
    have er' : [] = rest := Res.ok.inj er
    subst er'
    rw [List.append_nil] at ea
    subst ea
    exact h1.ok acc ey G' H' gb Dd us (h1.sb.free hD) gd hu rl
/-! a name is the target -/
variable {i : Nat} {n y : Str} {p : Pos} {mt : D → Res Bool} {me : D → Res D} {j : Nat}
def lcF (mt : D → Res Bool) (me : D → Res D) : D → Res (Option D) := fun x => mt x >>= fun b => if b then me x >>= fun y => .ok (some y) else .ok none
theorem turnN (hi : i < X.N.length) {vs : List Nat} (hv : i ∈ vs) : LcTurn X ca ρ vs (gName i) (fun σ H Q => ∃ x, tB X.K ca W0 (ρ.set i (some (.d x))) (mt x) σ H Q) (fun σ H Q => ∃ x, tD X.K ca W0 (ρ.set i (some (.d x))) (me x) σ H Q) (lcF mt me) := by
  intro σ x G H f v Ky Kn hl E r nb ky kn
  have hiσ : i < (wipe σ vs).length := by rw [wipe_length, hl]; exact hi
  have E1 := E.put hiσ r
  have hf : ∀ k a, (if k = i then none_ else f k) a → ∃ u, H a = some u := fun k a q => (E1.out k a q).2
  refine ⟨wipe_eq (by rw [List.length_set, wipe_length]) fun k hk => by rw [List.getElem?_set_ne (fun e => hk (by rw [← e]; exact hv))], x, H, G, ?_⟩
  have C : Cr X.K ca W0 (ρ.set i (some (.d x))) ((wipe σ vs).set i (some v)) H G H (mt x >>= fun b => if b then me x >>= fun y => .ok (some y) else .ok none) (fun o G' H' => match o with | some y => ∀ w, R X.K ca G' w y → Ky w H' | none => Kn H') := by
    refine ⟨Same.refl _, ⟨_, E1, hf⟩, fun e => nb (by unfold lcF; rw [e]; rfl), fun o e G' H' gb => ?_, fun c e => (nb (by unfold lcF; rw [e]; rfl)).elim⟩
    cases o with
    | some y => exact fun w rw' => ky y G' H' (by unfold lcF; rw [e]; rfl) gb w rw'
    | none => exact kn G' H' (by unfold lcF; rw [e]; rfl) gb
  exact C.cut fun b G1 H1 eb g1 h1 => by
    cases b with
    | true => exact ⟨x, H, G1, Cr.cut h1 fun z G2 H2 ez g2 h2 w rw' => h2.done w rw'⟩
    | false => exact h1.done
theorem e_lcN (hc : X.calm = true) (hN : X.N.Nodup) (hi : PI X (.Name n p) iter (tIt X.K ca W ρ mi)) (hn : X.N[i]? = some n) (ok : BlkOk X.N X.env.scope scope own) {ρi : Env} (lei : Env.le ρi ρ) (hcl : clearE ρi (own.map (·.2)) = true) (hv : i ∈ own.map (·.2))
    (hg : ∀ (s : Shared) (H : Hp) (C : Addr) (cl : List (Str × Addr)) (fp : List Addr), PG (X.blk s H scope (compEnvC scope cl C X.env) fp) (.Name n p) (gName i))
    (ht : ∀ (x : D) (s : Shared) (H : Hp) (C : Addr) (cl : List (Str × Addr)) (fp : List Addr), PTs (X.blk s H scope (compEnvC scope cl C X.env) fp) ifs (tB X.K ca W0 (ρi.set i (some (.d x))) (mt x)))
    (he : ∀ (x : D) (s : Shared) (H : Hp) (C : Addr) (cl : List (Str × Addr)) (fp : List Addr), PE (X.blk s H scope (compEnvC scope cl C X.env) fp) elt (tD X.K ca W0 (ρi.set i (some (.d x))) (me x)))
    (hs : ∀ x, foldedSetIterable iter X.env x = pure x := by intro _; rfl) :
    PE X (.ListComp elt [⟨.Name n p, iter, ifs, 0⟩] scope pos) (tL X.K ca W ρ (mi >>= fun xs => lcSize xs >>= fun xs => compR (lcF mt me) xs)) := by
  refine ⟨fun pins s σ H Q I h => ?_⟩
  refine (pe_lc (tt := fun σ H Q => ∃ x, tB X.K ca W0 (ρi.set i (some (.d x))) (mt x) σ H Q) (te := fun σ H Q => ∃ x, tD X.K ca W0 (ρi.set i (some (.d x))) (me x) σ H Q) hc hN hi ok hg (fun s H C cl fp => ⟨fun pins s σ H Q I ⟨x, q⟩ => (ht x _ _ C cl fp).run pins s σ H Q I q⟩) (fun s H C cl fp => ⟨fun pins s σ H Q I ⟨x, q⟩ => (he x _ _ C cl fp).run pins s σ H Q I q⟩) hs).run pins s σ H Q I ?_
  exact lc_read lei (turnN (List.getElem?_eq_some_iff.mp hn).1 hv) hcl I.len h
/-- y = [..], y a local name -/
theorem s_setLcN {S B T : Type} {emb : S → Env} {embB : B → Env} {out : T → RtP} {ρx : EX} {rest : List Stmt} {py spos : Pos} {k : List D → Res (Out S B T)} (hc : X.calm = true) (hN : X.N.Nodup) (hy : X.N[j]? = some y) (hyl : X.env.scope.names.lookup y = some .local)
    (hsw : swapsWith (.ListComp elt [⟨.Name n p, iter, ifs, 0⟩] scope pos) (some (.Name y py)) spos.line X.env = pure true)
    (hi : PI X (.Name n p) iter (tIt X.K ca W ρ mi)) (hn : X.N[i]? = some n) (ok : BlkOk X.N X.env.scope scope own) {ρi : Env} (lei : Env.le ρi ρ) (hcl : clearE ρi (own.map (·.2)) = true) (hv : i ∈ own.map (·.2)) (le : Env.le ρx.e ρ)
    (hg : ∀ (s : Shared) (H : Hp) (C : Addr) (cl : List (Str × Addr)) (fp : List Addr), PG (X.blk s H scope (compEnvC scope cl C X.env) fp) (.Name n p) (gName i))
    (ht : ∀ (x : D) (s : Shared) (H : Hp) (C : Addr) (cl : List (Str × Addr)) (fp : List Addr), PTs (X.blk s H scope (compEnvC scope cl C X.env) fp) ifs (tB X.K ca W0 (ρi.set i (some (.d x))) (mt x)))
    (he : ∀ (x : D) (s : Shared) (H : Hp) (C : Addr) (cl : List (Str × Addr)) (fp : List Addr), PE (X.blk s H scope (compEnvC scope cl C X.env) fp) elt (tD X.K ca W0 (ρi.set i (some (.d x))) (me x)))
    (h : ∀ a, PSs X rest (tS X.K ca W ρx emb embB out (ρ.set j (some (.ol none a))) (k a)))
    (hs : ∀ x, foldedSetIterable iter X.env x = pure x := by intro _; rfl) :
    PSs X (.Assign [.Name y py] (.ListComp elt [⟨.Name n p, iter, ifs, 0⟩] scope pos) spos :: rest) (tS X.K ca W ρx emb embB out ρ ((mi >>= fun xs => lcSize xs >>= fun xs => compR (lcF mt me) xs) >>= k)) :=
  PSs.ofI (pss_cons (ps_setLc (tt := fun σ H Q => ∃ x, tB X.K ca W0 (ρi.set i (some (.d x))) (mt x) σ H Q) (te := fun σ H Q => ∃ x, tD X.K ca W0 (ρi.set i (some (.d x))) (me x) σ H Q) hc hN hy hyl hsw hi ok hg (fun s H C cl fp => ⟨fun pins s σ H Q I ⟨x, q⟩ => (ht x _ _ C cl fp).run pins s σ H Q I q⟩) (fun s H C cl fp => ⟨fun pins s σ H Q I ⟨x, q⟩ => (he x _ _ C cl fp).run pins s σ H Q I q⟩) hs) (PSs.any h)) fun D0 σ H hl ⟨G, f, E, hq⟩ =>
    lc_read (Q := fun v H1 => ∃ a, tS X.K ca W ρx emb embB out (ρ.set j (some (.ol none a))) (k a) D0 (σ.set j (some v)) H1) lei (turnN (List.getElem?_eq_some_iff.mp hn).1 hv) hcl hl ⟨H, G, So.expr hq E le fun a G1 H1 ea g E1 h1 p vs hp gp hh rl => by
      have hiσ : j < σ.length := by rw [hl]; exact (List.getElem?_eq_some_iff.mp hy).1
      have new : ∀ j, ¬ f j p := fun j z => by
        obtain ⟨_, u, q⟩ := E.out j p z
        rw [hp] at q; cases q
      refine ⟨a, G1, _, E1.putL hiσ hh gp new rl, ?_⟩
      exact So.step (a := a) hq ea ⟨g.g, g.sub, fun x o z _ => g.h x o z, fun x o z => (g.new x o z).elim .inl fun q => .inr (.inl q), fun x z => (all_put z).elim (fun q => .inr (by rw [q]; exact hp)) .inl⟩⟩
theorem ts_nil : PTs X [] (tB X.K ca W0 ρ (.ok true)) := ⟨fun pins s σ H Q I ⟨Hb, G, h⟩ => pts_nil.run pins s σ H Q I h.done⟩
theorem ts_one {c : Expr} {m : Res Bool} (h : PT X c (tB X.K ca W0 ρ m)) : PTs X [c] (tB X.K ca W0 ρ m) := pts_one h
@[simp] theorem lcF_yes (me : D → Res D) (x : D) : lcF (fun _ => .ok true) me x = (me x >>= fun y => .ok (some y)) := rfl
theorem lcF_map (me : D → Res D) (xs : List D) : compR (lcF (fun _ => .ok true) me) xs = mapR me xs := by rw [mapR_comp]; rfl
end
/-- what is raised by a call within an expression is taken -/
abbrev TkE (X : Cx) (W : WX) : Prop := ∀ σ, PassesAt (L2.CX X.prog X.w) X σ (WE W σ)
/-! ### what a def promises -/
def spD (K : PySem.W.Frag) (ca : Nat → Addr) (F : List D → Res D) : Sp := fun vs H Q E => ∃ G ds, Same G H ∧ RL K ca G vs ds ∧ F ds ≠ .bug ∧
  (∀ d, F ds = .ok d → ∀ G' H', Grow G H G' H' → ∀ v, R K ca G' v d → Q v H') ∧ (∀ c, F ds = .exc c → ∀ G' H', Grow G H G' H' → E (.ref (ca c)) none H')
def spL (K : PySem.W.Frag) (ca : Nat → Addr) (F : List D → Res (List D)) : Sp := fun vs H Q E => ∃ G ds, Same G H ∧ RL K ca G vs ds ∧ F ds ≠ .bug ∧
  (∀ xs, F ds = .ok xs → ∀ G' H', Grow G H G' H' → ∀ p us, H p = none → G' p = none → H' p = some (.lst us) → RL K ca G' us xs → Q (.ref p) H') ∧ (∀ c, F ds = .exc c → ∀ G' H', Grow G H G' H' → E (.ref (ca c)) none H')
/-- a def that can be called: with k levels below, dvs filled up -/
structure Cal (P : Program) (w : World) (K : PySem.W.Frag) (mg : Str → Option Value) (base : Heap) (n : Str) (k : Nat) (sp : Sp) (dvs : List V) : Prop where
  ex : ∃ (f : Addr) (fd : FuncData) (ps : List Str) (ds : List Value), FnOk P w K mg base (L2.CX P w) k f fd ps sp ∧ mg n = some (.ref f) ∧ PySem.W.keepIn K (.ref f) = true ∧ Binds K fd ps ds ∧ Vals dvs ds
theorem Cal.mono {P : Program} {w : World} {K : PySem.W.Frag} {mg : Str → Option Value} {base : Heap} {n : Str} {j k : Nat} {sp : Sp} {dvs : List V} (h : Cal P w K mg base n j sp dvs) (hk : j ≤ k) : Cal P w K mg base n k sp dvs :=
  let ⟨f, fd, ps, ds, a, b⟩ := h.ex
  ⟨f, fd, ps, ds, a.mono hk, b⟩
section
variable {X : Cx} {ca : Nat → Addr} {W : WX} {ρ : Env} {n : Str} {k : Nat} {sp : Sp} {dvs : List V} {e : Expr} {es : List Expr} {p pos : Pos} {mas : Res (List D)}
def tCallSD (sp : Sp) (dvs : List V) (E : L2.St → XK) (t : TA) : TE := fun σ H Q => t σ H fun vs H1 => sp (vs ++ dvs) H1 Q (E σ)
theorem pe_callSD {E : L2.St → XK} {t : TA} (c : Cal X.prog X.w X.K X.mg X.base n k sp dvs) (hr : Room k X.A) (hg : Gl X n) (hx : ∀ σ, PassesAt (L2.CX X.prog X.w) X σ (E σ))
    (ha : PA X (e :: es) t) (hdb : (n == ("__debug__" : Str)) = false := by decide) (he : starEach (e :: es) X.env = (false, eval e X.env) :: starEach es X.env := by rfl) (hpl : (backTo pos (starEach es X.env)).any (·.1) = false := by rfl) :
    PE X (.Call (.Name n p) (e :: es) [] pos) (tCallSD sp dvs E t) := by
  obtain ⟨f, fd, ps, ds, F, hm, hk, hb, hd⟩ := c.ex
  refine ⟨fun pins s σ H Q I h => ?_⟩
  refine wpAny_Call_Name_kw (ld_glob I hg hm ?_ hdb)
  refine PySem.W.callWith_K (h₀ := X.base) I.ok.mod.kin hk (thn (ha.run pos pins s σ H _ I h) fun us s1 ⟨vs, H1, I1, r, q⟩ => ⟨I1.kIn, ?_⟩) he hpl
  have r2 : Vals (vs ++ dvs) (us ++ ds) := r.append hd
  have hl : (us ++ ds).length = ps.length := by rw [← r2.length]; exact F.len _ _ _ _ q
  refine wpAny_call (codeAny_mono (F.run X.A X.stack s1 H1 ⟨us, []⟩ (us ++ ds) (vs ++ dvs) Q (E σ) hr I1.env0 (hb s1 us I1.kIn hl) r2 q) fun r s' hq => ?_)
  cases r with
  | error e => exact hx σ pins H1 s1 e s' I1 hq
  | ok fl =>
    cases fl with
    | ret u => exact I1.after hq
    | next => exact False.elim hq
    | brk => exact False.elim hq
    | cont => exact False.elim hq
/-- f() -/
theorem pe_call0SD {E : L2.St → XK} (c : Cal X.prog X.w X.K X.mg X.base n k sp dvs) (hr : Room k X.A) (hg : Gl X n) (hx : ∀ σ, PassesAt (L2.CX X.prog X.w) X σ (E σ)) (hdb : (n == ("__debug__" : Str)) = false := by decide) :
    PE X (.Call (.Name n p) [] [] pos) (tCallSD sp dvs E tNil) := by
  obtain ⟨f, fd, ps, ds, F, hm, hk, hb, hd⟩ := c.ex
  refine ⟨fun pins s σ H Q I q => ?_⟩
  refine wpAny_Call_Name_kw (ld_glob I hg hm ?_ hdb)
  refine PySem.W.callWith_K0 I.kIn hk ?_
  have hl : (([] : List Value) ++ ds).length = ps.length := by
    rw [List.nil_append, ← hd.length]
    exact F.len _ _ _ _ q
  refine wpAny_call (codeAny_mono (F.run X.A X.stack s H ⟨[], []⟩ ([] ++ ds) ([] ++ dvs) Q (E σ) hr I.env0 (hb s [] I.kIn hl) hd q) fun r s' hq => ?_)
  cases r with
  | error e => exact hx σ pins H s e s' I hq
  | ok fl =>
    cases fl with
    | ret u => exact I.after hq
    | next => exact False.elim hq
    | brk => exact False.elim hq
    | cont => exact False.elim hq
theorem spD_of {K : PySem.W.Frag} {Hb G H : Hp} {σ : L2.St} {F : List D → Res D} {ds : List D} {vs : List V} {Q : VK} (h : Cr K ca W ρ σ Hb G H (F ds) fun d G' H' => ∀ v, R K ca G' v d → Q v H') (r : RL K ca G vs ds) : spD K ca F vs H Q (WE W σ) :=
  ⟨G, ds, h.sub, r, h.nb, fun d e G' H' g v rv => h.ok d e G' H' (Gb.of h.sb g) v rv, fun c e G' H' g => h.ex c e G' H' (Gb.of h.sb g)⟩
theorem spL_of {K : PySem.W.Frag} {Hb G H : Hp} {σ : L2.St} {F : List D → Res (List D)} {ds : List D} {vs : List V} {Q : VK} (h : Cr K ca W ρ σ Hb G H (F ds) fun xs G' H' => ∀ p vs, Hb p = none → G' p = none → H' p = some (.lst vs) → RL K ca G' vs xs → Q (.ref p) H') (r : RL K ca G vs ds) : spL K ca F vs H Q (WE W σ) :=
  ⟨G, ds, h.sub, r, h.nb, fun xs e G' H' g p us hp gp hh rl => h.ok xs e G' H' (Gb.of h.sb g) p us (h.sb.free hp) gp hh rl, fun c e G' H' g => h.ex c e G' H' (Gb.of h.sb g)⟩
theorem e_call {F : List D → Res D} (c : Cal X.prog X.w X.K X.mg X.base n k (spD X.K ca F) []) (hr : Room k X.A) (hg : Gl X n) (tk : TkE X W) (ha : PA X (e :: es) (tArg X.K ca W ρ mas)) (hdb : (n == ("__debug__" : Str)) = false := by decide)
    (he : starEach (e :: es) X.env = (false, eval e X.env) :: starEach es X.env := by rfl) (hpl : (backTo pos (starEach es X.env)).any (·.1) = false := by rfl) : PE X (.Call (.Name n p) (e :: es) [] pos) (tD X.K ca W ρ (mas >>= fun ds => F ds)) :=
  PE.of (pe_callSD (E := WE W) c hr hg tk ha hdb he hpl) fun σ H Q ⟨Hb, G, h⟩ => ⟨Hb, G, h.cut fun ds G1 H1 _ g1 h1 vs rvs => by
    show spD X.K ca F (vs ++ []) H1 Q (WE W σ)
    rw [List.append_nil]
    exact spD_of h1 rvs⟩
theorem e_callL {F : List D → Res (List D)} (c : Cal X.prog X.w X.K X.mg X.base n k (spL X.K ca F) []) (hr : Room k X.A) (hg : Gl X n) (tk : TkE X W) (ha : PA X (e :: es) (tArg X.K ca W ρ mas)) (hdb : (n == ("__debug__" : Str)) = false := by decide)
    (he : starEach (e :: es) X.env = (false, eval e X.env) :: starEach es X.env := by rfl) (hpl : (backTo pos (starEach es X.env)).any (·.1) = false := by rfl) : PE X (.Call (.Name n p) (e :: es) [] pos) (tL X.K ca W ρ (mas >>= fun ds => F ds)) :=
  PE.of (pe_callSD (E := WE W) c hr hg tk ha hdb he hpl) fun σ H Q ⟨Hb, G, h⟩ => ⟨Hb, G, h.cut fun ds G1 H1 _ g1 h1 vs rvs => by
    show spL X.K ca F (vs ++ []) H1 Q (WE W σ)
    rw [List.append_nil]
    exact spL_of h1 rvs⟩
/-- with defaults filled up -/
theorem e_callD {F : List D → Res D} {dds : List D} (c : Cal X.prog X.w X.K X.mg X.base n k (spD X.K ca F) dvs) (rd : ∀ G, RL X.K ca G dvs dds) (hr : Room k X.A) (hg : Gl X n) (tk : TkE X W) (ha : PA X (e :: es) (tArg X.K ca W ρ mas)) (hdb : (n == ("__debug__" : Str)) = false := by decide)
    (he : starEach (e :: es) X.env = (false, eval e X.env) :: starEach es X.env := by rfl) (hpl : (backTo pos (starEach es X.env)).any (·.1) = false := by rfl) : PE X (.Call (.Name n p) (e :: es) [] pos) (tD X.K ca W ρ (mas >>= fun ds => F (ds ++ dds))) :=
  PE.of (pe_callSD (E := WE W) c hr hg tk ha hdb he hpl) fun σ H Q ⟨Hb, G, h⟩ => ⟨Hb, G, h.cut fun ds G1 H1 _ g1 h1 vs rvs => spD_of h1 (rvs.append (rd G1))⟩
theorem e_call0 {F : List D → Res D} (c : Cal X.prog X.w X.K X.mg X.base n k (spD X.K ca F) []) (hr : Room k X.A) (hg : Gl X n) (tk : TkE X W) (hdb : (n == ("__debug__" : Str)) = false := by decide) : PE X (.Call (.Name n p) [] [] pos) (tD X.K ca W ρ (F [])) :=
  PE.of (pe_call0SD (E := WE W) c hr hg tk hdb) fun σ H Q ⟨Hb, G, h⟩ => (show spD X.K ca F ([] ++ []) H Q (WE W σ) from spD_of h .nil)
theorem e_call0L {F : List D → Res (List D)} (c : Cal X.prog X.w X.K X.mg X.base n k (spL X.K ca F) []) (hr : Room k X.A) (hg : Gl X n) (tk : TkE X W) (hdb : (n == ("__debug__" : Str)) = false := by decide) : PE X (.Call (.Name n p) [] [] pos) (tL X.K ca W ρ (F [])) :=
  PE.of (pe_call0SD (E := WE W) c hr hg tk hdb) fun σ H Q ⟨Hb, G, h⟩ => (show spL X.K ca F ([] ++ []) H Q (WE W σ) from spL_of h .nil)
end
/-! ### a def keeps its promise -/
def ex0 : EX := ⟨[], fun _ => []⟩
def fin {S B : Type} (m : Res (Out S B D)) : Res D := m >>= fun
  | .nx _ => .ok .non
  | .rt r => .ok r
  | .ra c _ => .exc c
  | _ => .bug
def finL {S B : Type} (m : Res (Out S B (List D))) : Res (List D) := m >>= fun
  | .rt r => .ok r
  | .ra c _ => .exc c
  | _ => .bug
@[simp] theorem fin_rt {S B : Type} (r : D) : fin (S := S) (B := B) (.ok (.rt r)) = .ok r := rfl
@[simp] theorem fin_nx {S B : Type} (s : S) : fin (S := S) (B := B) (.ok (.nx s)) = .ok .non := rfl
@[simp] theorem fin_exc {S B : Type} (c : Nat) : fin (S := S) (B := B) (.exc c) = .exc c := rfl
@[simp] theorem fin_bug {S B : Type} : fin (S := S) (B := B) .bug = .bug := rfl
@[simp] theorem finL_rt {S B : Type} (r : List D) : finL (S := S) (B := B) (.ok (.rt r)) = .ok r := rfl
@[simp] theorem finL_exc {S B : Type} (c : Nat) : finL (S := S) (B := B) (.exc c) = .exc c := rfl
@[simp] theorem finL_bug {S B : Type} : finL (S := S) (B := B) .bug = .bug := rfl
def F0 {α : Type} (m : Res α) : List D → Res α | [] => m | _ => .bug
def F1 {α : Type} (m : D → Res α) : List D → Res α | [a] => m a | _ => .bug
def F2 {α : Type} (m : D → D → Res α) : List D → Res α | [a, b] => m a b | _ => .bug
def F3 {α : Type} (m : D → D → D → Res α) : List D → Res α | [a, b, c] => m a b c | _ => .bug
def F4 {α : Type} (m : D → D → D → D → Res α) : List D → Res α | [a, b, c, d] => m a b c d | _ => .bug
def F5 {α : Type} (m : D → D → D → D → D → Res α) : List D → Res α | [a, b, c, d, e] => m a b c d e | _ => .bug
def F6 {α : Type} (m : D → D → D → D → D → D → Res α) : List D → Res α | [a, b, c, d, e, f] => m a b c d e f | _ => .bug
def F7 {α : Type} (m : D → D → D → D → D → D → D → Res α) : List D → Res α | [a, b, c, d, e, f, g] => m a b c d e f g | _ => .bug
@[simp] theorem F0_eq {α : Type} (m : Res α) : F0 m [] = m := rfl
@[simp] theorem F1_eq {α : Type} (m : D → Res α) (a : D) : F1 m [a] = m a := rfl
@[simp] theorem F2_eq {α : Type} (m : D → D → Res α) (a b : D) : F2 m [a, b] = m a b := rfl
@[simp] theorem F3_eq {α : Type} (m : D → D → D → Res α) (a b c : D) : F3 m [a, b, c] = m a b c := rfl
@[simp] theorem F4_eq {α : Type} (m : D → D → D → D → Res α) (a b c d : D) : F4 m [a, b, c, d] = m a b c d := rfl
@[simp] theorem F5_eq {α : Type} (m : D → D → D → D → D → Res α) (a b c d e : D) : F5 m [a, b, c, d, e] = m a b c d e := rfl
@[simp] theorem F6_eq {α : Type} (m : D → D → D → D → D → D → Res α) (a b c d e f : D) : F6 m [a, b, c, d, e, f] = m a b c d e f := rfl
@[simp] theorem F7_eq {α : Type} (m : D → D → D → D → D → D → D → Res α) (a b c d e f g : D) : F7 m [a, b, c, d, e, f, g] = m a b c d e f g := rfl
theorem F0_inv {α : Type} {m : Res α} {ds : List D} (h : F0 m ds ≠ .bug) : ds = [] := by unfold F0 at h; split at h <;> first | rfl | exact (h rfl).elim
theorem F1_inv {α : Type} {m : D → Res α} {ds : List D} (h : F1 m ds ≠ .bug) : ∃ a, ds = [a] := by unfold F1 at h; split at h <;> first | exact ⟨_, rfl⟩ | exact (h rfl).elim
theorem F2_inv {α : Type} {m : D → D → Res α} {ds : List D} (h : F2 m ds ≠ .bug) : ∃ a b, ds = [a, b] := by unfold F2 at h; split at h <;> first | exact ⟨_, _, rfl⟩ | exact (h rfl).elim
theorem F3_inv {α : Type} {m : D → D → D → Res α} {ds : List D} (h : F3 m ds ≠ .bug) : ∃ a b c, ds = [a, b, c] := by unfold F3 at h; split at h <;> first | exact ⟨_, _, _, rfl⟩ | exact (h rfl).elim
theorem F4_inv {α : Type} {m : D → D → D → D → Res α} {ds : List D} (h : F4 m ds ≠ .bug) : ∃ a b c d, ds = [a, b, c, d] := by unfold F4 at h; split at h <;> first | exact ⟨_, _, _, _, rfl⟩ | exact (h rfl).elim
theorem F5_inv {α : Type} {m : D → D → D → D → D → Res α} {ds : List D} (h : F5 m ds ≠ .bug) : ∃ a b c d e, ds = [a, b, c, d, e] := by unfold F5 at h; split at h <;> first | exact ⟨_, _, _, _, _, rfl⟩ | exact (h rfl).elim
theorem F6_inv {α : Type} {m : D → D → D → D → D → D → Res α} {ds : List D} (h : F6 m ds ≠ .bug) : ∃ a b c d e f, ds = [a, b, c, d, e, f] := by unfold F6 at h; split at h <;> first | exact ⟨_, _, _, _, _, _, rfl⟩ | exact (h rfl).elim
theorem F7_inv {α : Type} {m : D → D → D → D → D → D → D → Res α} {ds : List D} (h : F7 m ds ≠ .bug) : ∃ a b c d e f g, ds = [a, b, c, d, e, f, g] := by unfold F7 at h; split at h <;> first | exact ⟨_, _, _, _, _, _, _, rfl⟩ | exact (h rfl).elim
/-- the names at the entry -/
def rho0 (N : List Str) (ds : List D) : Env := ds.map (fun d => some (.d d)) ++ List.replicate (N.length - ds.length) none
theorem start_ok {K : PySem.W.Frag} {ca : Nat → Addr} {G H : Hp} {N : List Str} (s : Same G H) {ds : List D} {vs : List V} (r : RL K ca G vs ds) : EnvOk K ca G H (L2.start N vs) (rho0 N ds) (fun _ => none_) := by
  refine ⟨s, fun i o h => ?_, fun i j a z => z.elim, fun i a z => z.elim⟩
  unfold rho0 at h
  by_cases hi : i < ds.length
  · rw [List.getElem?_append_left (by rw [List.length_map]; exact hi), List.getElem?_map] at h
    cases e : ds[i]? with
    | none => rw [e] at h; cases h
    | some d =>
      rw [e] at h
      have h' : O.d d = o := Option.some.inj (Option.some.inj h)
      subst h'
      obtain ⟨v, q1, q2⟩ := r.get e
      refine ⟨v, ?_, .d q2⟩
      unfold L2.start
      rw [List.getElem?_append_left (by rw [List.length_map, r.length]; exact hi), List.getElem?_map, q1]
      rfl
  · rw [List.getElem?_append_right (by rw [List.length_map]; omega), List.getElem?_replicate] at h
    split at h <;> cases h
section
variable {P : Program} {w : World} {K : PySem.W.Frag} {mg : Str → Option Value} {base : Heap} {ca : Nat → Addr} {x qual : Str} {params : Arguments} {body : List Stmt} {scope : Scope} {dvs : List V} {kws : List (Str × V)} {f : Addr} {fd : FuncData} {N ps : List Str} {k : Nat}
abbrev WD (E : XK) : WX := fun cls d _ H => E cls d H
theorem def_D {F : List D → Res D} (D0 : FunD K x qual params body scope dvs kws f fd) (Sc : FnScope N ps scope) (hlen : ∀ ds, F ds ≠ .bug → ds.length = ps.length)
    (hb : ∀ (cdv : Value) (A : Around) (outer : List PySem.Env) (s : Shared) (H : Hp) (E : XK) (ds : List D), Room k (A.deeper (envOfC qual scope s.heap.objs.size f cdv)) → F ds ≠ .bug →
      ∃ (S : Type) (emb : S → Lk.Env) (M : Res (Out S Empty D)), PSs (cxOf (L2.CX P w) P w K mg base N qual scope f cdv A outer s H E) body (tS K ca (WD E) ex0 emb (fun e : Empty => e.elim) (rtO K ca O.d) (rho0 N ds) M) ∧ fin M = F ds) :
    FnOk P w K mg base (L2.CX P w) (k + 1) f fd ps (spD K ca F) := by
  refine D0.ok Sc (fun vs H Q E ⟨G, ds, _, r, nb, _⟩ => by rw [r.length]; exact hlen ds nb) fun cdv A outer s H vs Q E hr ⟨G, ds, sg, r, nb, q1, q2⟩ => ?_
  obtain ⟨S, emb, M, hp, e⟩ := hb cdv A outer s H E ds hr nb
  refine ⟨_, hp, G, fun _ => none_, start_ok sg r, ?_⟩
  have gr : ∀ {G' H' : Hp} {F2 : AS}, Evo G H (All fun _ => none_) G' H' F2 → Grow G H G' H' := fun {G' H' F2} v => ⟨v.g, v.sub, fun a o z => v.h a o z (fun ⟨_, z⟩ => z), fun a o z => (v.new a o z).elim .inl fun q => q.elim .inr fun ⟨_, z⟩ => z.elim⟩
  refine ⟨fun z => nb (by rw [← e, z]; rfl), fun s2 z σ' G' H' f' v E' => q1 .non (by rw [← e, z]; rfl) G' H' (gr v) .non .non, fun b => b.elim, fun b => b.elim, fun d z v G' H' g ev ⟨ow, fr⟩ => ?_, fun c z σ' G' H' f' v E' => q2 c (by rw [← e, z]; rfl) G' H' (gr v), fun c os z σ' G' H' f' v E' => q2 c (by rw [← e, z]; rfl) G' H' (gr v)⟩
  cases ow with
  | d rv => exact q1 d (by rw [← e, z]; rfl) G' H' (gr ev) v rv
theorem def_L {F : List D → Res (List D)} (D0 : FunD K x qual params body scope dvs kws f fd) (Sc : FnScope N ps scope) (hlen : ∀ ds, F ds ≠ .bug → ds.length = ps.length)
    (hb : ∀ (cdv : Value) (A : Around) (outer : List PySem.Env) (s : Shared) (H : Hp) (E : XK) (ds : List D), Room k (A.deeper (envOfC qual scope s.heap.objs.size f cdv)) → F ds ≠ .bug →
      ∃ (S : Type) (emb : S → Lk.Env) (M : Res (Out S Empty (List D))), PSs (cxOf (L2.CX P w) P w K mg base N qual scope f cdv A outer s H E) body (tS K ca (WD E) ex0 emb (fun e : Empty => e.elim) (rtO K ca (O.ol none)) (rho0 N ds) M) ∧ finL M = F ds) :
    FnOk P w K mg base (L2.CX P w) (k + 1) f fd ps (spL K ca F) := by
  refine D0.ok Sc (fun vs H Q E ⟨G, ds, _, r, nb, _⟩ => by rw [r.length]; exact hlen ds nb) fun cdv A outer s H vs Q E hr ⟨G, ds, sg, r, nb, q1, q2⟩ => ?_
  obtain ⟨S, emb, M, hp, e⟩ := hb cdv A outer s H E ds hr nb
  refine ⟨_, hp, G, fun _ => none_, start_ok sg r, ?_⟩
  have gr : ∀ {G' H' : Hp} {F2 : AS}, Evo G H (All fun _ => none_) G' H' F2 → Grow G H G' H' := fun {G' H' F2} v => ⟨v.g, v.sub, fun a o z => v.h a o z (fun ⟨_, z⟩ => z), fun a o z => (v.new a o z).elim .inl fun q => q.elim .inr fun ⟨_, z⟩ => z.elim⟩
  refine ⟨fun z => nb (by rw [← e, z]; rfl), fun s2 z => (nb (by rw [← e, z]; rfl)).elim, fun b => b.elim, fun b => b.elim, fun xs z v G' H' g ev ⟨ow, fr⟩ => ?_, fun c z σ' G' H' f' v E' => q2 c (by rw [← e, z]; rfl) G' H' (gr v), fun c os z σ' G' H' f' v E' => q2 c (by rw [← e, z]; rfl) G' H' (gr v)⟩
  cases ow with
  | ol hp rl gp _ =>
    refine q1 xs (by rw [← e, z]; rfl) G' H' (gr ev) _ _ ?_ (fr _ gp).1 hp rl
    exact (ev.own _ gp).elim (fun ⟨_, z⟩ => z.elim) id
end
end Lk
namespace Lk
open PySem PySem.Spec PyProof.Rows L2
/-! ### names of a scope -/
def locB (sc : Scope) (x : Str) : Bool := match sc.names.lookup x with
  | some .local => true
  | some .cell => true
  | _ => false
def glB (sc : Scope) (x : Str) : Bool := match sc.names.lookup x with
  | some .globalImplicit => true
  | _ => false
theorem locB_ok {sc : Scope} {x : Str} (h : locB sc x = true) : Loc sc x := by
  unfold locB at h
  split at h
  · exact .inl (by assumption)
  · exact .inr (by assumption)
  · cases h
theorem glB_ok {sc : Scope} {x : Str} (h : glB sc x = true) : sc.names.lookup x = some .globalImplicit := by
  unfold glB at h
  split at h
  · assumption
  · cases h
theorem Loc.vis {sc : Scope} {x : Str} (h : Loc sc x) : Vis sc x := h.elim .inl fun q => .inr (.inl q)
theorem lo {sc : Scope} {N : List Str} (h : (N.all (locB sc)) = true) (i : Nat) {x : Str} (e : N[i]? = some x) : Loc sc x := locB_ok (List.all_eq_true.mp h x (List.mem_of_getElem? e))
theorem vi {sc : Scope} {N : List Str} (h : (N.all (locB sc)) = true) (i : Nat) {x : Str} (e : N[i]? = some x) : Vis sc x := Loc.vis (lo h i e)
theorem gl {sc : Scope} {N : List Str} (h : (N.all (glB sc)) = true) (i : Nat) {x : Str} (e : N[i]? = some x) : sc.names.lookup x = some .globalImplicit := glB_ok (List.all_eq_true.mp h x (List.mem_of_getElem? e))
/-- no name is a word of the machine's own -/
def dbgB (x : Str) : Bool := !(x == ("__debug__" : Str)) && !(x == ("__classdict__" : Str))
theorem dbg1 {N : List Str} (h : (N.all dbgB) = true) (i : Nat) {x : Str} (e : N[i]? = some x) : (x == ("__debug__" : Str)) = false := by
  have q := List.all_eq_true.mp h x (List.mem_of_getElem? e)
  unfold dbgB at q
  rw [Bool.and_eq_true] at q
  simpa using q.1
theorem dbg2 {N : List Str} (h : (N.all dbgB) = true) (i : Nat) {x : Str} (e : N[i]? = some x) : (x == ("__classdict__" : Str)) = false := by
  have q := List.all_eq_true.mp h x (List.mem_of_getElem? e)
  unfold dbgB at q
  rw [Bool.and_eq_true] at q
  simpa using q.2
/-! ### less known -/
theorem le_s {ρ' ρ : Env} {o : Option O} (h : Env.le ρ' ρ) : Env.le (o :: ρ') (o :: ρ) := fun i => match i with
  | 0 => fun _ q => q
  | i + 1 => fun x q => by simpa using h i x (by simpa using q)
theorem le_n {ρ' ρ : Env} {o : Option O} (h : Env.le ρ' ρ) : Env.le (none :: ρ') (o :: ρ) := fun i => match i with
  | 0 => fun _ q => by simp at q
  | i + 1 => fun x q => by simpa using h i x (by simpa using q)
/-! ### a list of one's own, lent -/
mutual
/-- no list stands in it -/
def D.lf : D → Bool
  | .lst _ => false
  | .tup xs => D.lfL xs
  | .ins _ fs => D.lfF fs
  | .dic fs => D.lfF fs
  | .any => false
  | _ => true
def D.lfL : List D → Bool
  | [] => true
  | x :: xs => D.lf x && D.lfL xs
def D.lfF : List (Str × D) → Bool
  | [] => true
  | (_, x) :: xs => D.lf x && D.lfF xs
end
def hide (p : Addr) (G : Hp) : Hp := fun a => if a = p then none else G a
theorem hide_ne {p a : Addr} {G : Hp} (h : a ≠ p) : hide p G a = G a := if_neg h
theorem hide_same {p : Addr} {G : Hp} : hide p G p = none := if_pos rfl
section
variable {K : PySem.W.Frag} {ca : Nat → Addr} {G : Hp} {p : Addr} {us : List V}
mutual
theorem R.hide (hp : G p = some (.lst us)) : ∀ {d : D} {v : V}, D.lf d = true → R K ca G v d → R K ca (hide p G) v d
  | .any, _, l, _ => by simp [D.lf] at l
  | .non, _, _, h => by cases h; exact .non
  | .bl _, _, _, h => by cases h; exact .bl _
  | .int _, _, _, h => by cases h; exact .int _
  | .str _, _, _, h => by cases h; exact .str _
  | .lst _, _, l, _ => by simp [D.lf] at l
  | .tup ds, _, l, h => by
    cases h with
    | tup h1 h2 =>
      refine .tup ?_ (RL.hide hp (by simpa [D.lf] using l) h2)
      rcases h1 with (h1 | ⟨o, h1⟩) | h1
      · exact .inl (.inl (by rw [hide_ne (fun e => by rw [e, hp] at h1; cases h1)]; exact h1))
      · exact .inl (.inr ⟨o, by rw [hide_ne (fun e => by rw [e, hp] at h1; cases h1)]; exact h1⟩)
      · exact .inr h1
  | .ins c fs, _, l, h => by
    cases h with
    | ins h1 h2 => exact .ins (by rw [hide_ne (fun e => by rw [e, hp] at h1; cases h1)]; exact h1) (RF.hide hp (by simpa [D.lf] using l) h2)
  | .dic fs, _, l, h => by
    cases h with
    | dic h1 h2 => exact .dic (by rw [hide_ne (fun e => by rw [e, hp] at h1; cases h1)]; exact h1) (RF.hide hp (by simpa [D.lf] using l) h2)
theorem RL.hide (hp : G p = some (.lst us)) : ∀ {ds : List D} {vs : List V}, D.lfL ds = true → RL K ca G vs ds → RL K ca (hide p G) vs ds
  | [], _, _, h => by cases h; exact .nil
  | d :: ds, _, l, h => by
    have l' := Bool.and_eq_true_iff.mp (show (D.lf d && D.lfL ds) = true by simpa [D.lfL] using l)
    cases h with
    | cons h1 h2 => exact .cons (R.hide hp l'.1 h1) (RL.hide hp l'.2 h2)
theorem RF.hide (hp : G p = some (.lst us)) : ∀ {fs : List (Str × D)} {vs : List (Str × V)}, D.lfF fs = true → RF K ca G vs fs → RF K ca (hide p G) vs fs
  | [], _, _, h => by cases h; exact .nil
  | (n, d) :: ds, _, l, h => by
    have l' := Bool.and_eq_true_iff.mp (show (D.lf d && D.lfF ds) = true by simpa [D.lfF] using l)
    cases h with
    | cons h1 h2 => exact .cons (R.hide hp l'.1 h1) (RF.hide hp l'.2 h2)
end
end
def D.free (d : D) : Res D := if D.lf d = true then .ok d else .bug
@[simp] theorem free_int (i : Int) : D.free (.int i) = .ok (.int i) := rfl
@[simp] theorem free_bl (i : Bool) : D.free (.bl i) = .ok (.bl i) := rfl
@[simp] theorem free_str (i : Str) : D.free (.str i) = .ok (.str i) := rfl
@[simp] theorem free_non : D.free .non = .ok .non := rfl
@[simp] theorem lfL_ints : ∀ ns : List Int, D.lfL (ns.map D.int) = true
  | [] => rfl
  | n :: ns => by simp [D.lfL, D.lf, lfL_ints ns]
def D.freeL (xs : List D) : Res (List D) := if D.lfL xs = true then .ok xs else .bug
section
variable {X : Cx} {ca : Nat → Addr} {W : WX} {ρ : Env} {e : Expr} {i : Nat} {rr : Option V} {xs : List D} {α : Type}
/-- the state with the list lent -/
theorem lend {K : PySem.W.Frag} {σ : L2.St} {Hb G H : Hp} {m : Res α} {P P2 : α → Hp → Hp → Prop} (ho : ρ[i]? = some (some (.ol rr xs))) (h : Cr K ca W ρ σ Hb G H m P)
    (hk : ∀ p us a G' H', m = .ok a → G' p = some (.lst us) → P a (hide p G') H' → P2 a G' H') : ∃ G2, Cr K ca W (ρ.set i (some (.d (.lst xs)))) σ Hb G2 H m P2 := by
  obtain ⟨f, E, hf⟩ := h.env
  obtain ⟨p, us, hσ, hp, rl, fp, _⟩ := E.own ho
  have gp := (E.out i p fp).1
  have s1 : Same G (upd G p (.lst us)) := fun a u z => by rw [upd_ne (ne_of_none z gp)]; exact z
  have s2 : Same (upd G p (.lst us)) H := fun a u z => by
    by_cases e : a = p
    · subst e
      rw [upd_same] at z
      rw [hp]; exact z
    · rw [upd_ne e] at z
      exact E.sub a u z
  have E2 : EnvOk K ca (upd G p (.lst us)) H σ (ρ.set i (some (.d (.lst xs)))) (fun j => if j = i then none_ else f j) := by
    refine ⟨s2, fun j o hj => ?_, fun j k a h1 h2 => ?_, fun j a h1 => ?_⟩
    · by_cases e : j = i
      · subst e
        have hl : j < (ρ.set j (some (.d (.lst xs)))).length := (List.getElem?_eq_some_iff.mp hj).1
        rw [List.length_set] at hl
        rw [List.getElem?_set_self hl] at hj
        cases hj
        exact ⟨_, hσ, .d (.lst (.inl (.inl upd_same)) (rl.mono s1))⟩
      · rw [List.getElem?_set_ne (Ne.symm e)] at hj
        obtain ⟨w, z1, z2⟩ := E.slot j o hj
        exact ⟨w, z1, by simpa [e] using z2.mono s1 fun a u _ z => z⟩
    · by_cases e1 : j = i
      · simp only [e1, if_true] at h1
        exact h1.elim
      · by_cases e2 : k = i
        · simp only [e2, if_true] at h2
          exact h2.elim
        · simp only [e1, e2, if_false] at h1 h2
          exact E.sep j k a h1 h2
    · by_cases e1 : j = i
      · simp only [e1, if_true] at h1
        exact h1.elim
      · simp only [e1, if_false] at h1
        obtain ⟨z1, z2⟩ := E.out j a h1
        refine ⟨?_, z2⟩
        rw [upd_ne (fun z => e1 (E.sep j i a h1 (by rw [z]; exact fp)))]
        exact z1
  have back : ∀ {G' H' : Hp}, Gb Hb (upd G p (.lst us)) H G' H' → Gb Hb G H (hide p G') H' ∧ G' p = some (.lst us) := fun {G' H'} g => by
    refine ⟨⟨fun a u z => ?_, fun a u z => ?_, g.h, fun a u z => ?_⟩, g.g _ _ upd_same⟩
    · have ne : a ≠ p := ne_of_none z gp
      rw [hide_ne ne]
      exact g.g a u (s1 a u z)
    · by_cases e : a = p
      · rw [e, hide_same] at z; cases z
      · rw [hide_ne e] at z
        exact g.sub a u z
    · by_cases e : a = p
      · rw [e, hide_same] at z; cases z
      · rw [hide_ne e] at z
        rcases g.new a u z with q | q
        · rw [upd_ne e] at q
          exact .inl q
        · exact .inr q
  refine ⟨upd G p (.lst us), h.sb, ⟨_, E2, fun j a z => ?_⟩, h.nb, fun a e G' H' g => hk p us a G' H' e (back g).2 (h.ok a e _ H' (back g).1), fun c e G' H' g => h.ex c e _ H' (back g).1⟩
  by_cases e1 : j = i
  · simp only [e1, if_true] at z
    exact z.elim
  · simp only [e1, if_false] at z
    exact hf j a z
/-- an expression that reads a list of one's own -/
theorem e_lend {m : Res D} (ho : ρ[i]? = some (some (.ol rr xs))) (h : PE X e (tD X.K ca W (ρ.set i (some (.d (.lst xs)))) m)) : PE X e (tD X.K ca W ρ (m >>= fun d => D.free d)) :=
  PE.of h fun σ H Q ⟨Hb, G, hq⟩ => by
    obtain ⟨G2, h2⟩ := lend ho (hq.cut (P := fun d G' H' => D.lf d = true ∧ ∀ v, R X.K ca G' v d → Q v H') fun d G1 H1 e g h1 => by
      by_cases hl : D.lf d = true
      · have ef : D.free d = .ok d := if_pos hl
        rw [ef] at h1
        exact ⟨hl, h1.done⟩
      · exact (h1.nb (if_neg hl)).elim) (P2 := fun d G' H' => ∀ v, R X.K ca G' v d → Q v H') (fun p us d G' H' _ hp q v rv => q.2 v (rv.hide hp q.1))
    exact ⟨Hb, G2, h2⟩
theorem e_lendL {m : Res (List D)} (ho : ρ[i]? = some (some (.ol rr xs))) (h : PE X e (tL X.K ca W (ρ.set i (some (.d (.lst xs)))) m)) : PE X e (tL X.K ca W ρ (m >>= fun d => D.freeL d)) :=
  PE.of h fun σ H Q ⟨Hb, G, hq⟩ => by
    obtain ⟨G2, h2⟩ := lend ho (hq.cut (P := fun xs G' H' => D.lfL xs = true ∧ ∀ p vs, Hb p = none → G' p = none → H' p = some (.lst vs) → RL X.K ca G' vs xs → Q (.ref p) H') fun d G1 H1 e g h1 => by
      by_cases hl : D.lfL d = true
      · have ef : D.freeL d = .ok d := if_pos hl
        rw [ef] at h1
        exact ⟨hl, h1.done⟩
      · exact (h1.nb (if_neg hl)).elim) (P2 := fun xs G' H' => ∀ p vs, Hb p = none → G' p = none → H' p = some (.lst vs) → RL X.K ca G' vs xs → Q (.ref p) H') (fun p us d G' H' _ hp q r vs hr gr hh rl => by
        have ne : r ≠ p := fun z => by rw [z, hp] at gr; cases gr
        exact q.2 r vs hr (by rw [hide_ne ne]; exact gr) hh (rl.hide hp q.1))
    exact ⟨Hb, G2, h2⟩
/-- a test that reads one -/
theorem t_lend {m : Res Bool} (ho : ρ[i]? = some (some (.ol rr xs))) (h : PT X e (tB X.K ca W (ρ.set i (some (.d (.lst xs)))) m)) : PT X e (tB X.K ca W ρ m) :=
  PT.of h fun σ H Q ⟨Hb, G, hq⟩ => by
    obtain ⟨G2, h2⟩ := lend ho hq (P2 := fun b _ H' => Q b H') (fun p us d G' H' _ hp q => q)
    exact ⟨Hb, G2, h2⟩
/-- x[k] of a list of one's own, whatever its items are -/
theorem e_ownItem {n : Str} {p0 pos : Pos} {b : Expr} {mb : Res D} (hN : X.N[i]? = some n) (hv : Vis X.env.scope n) (hd : (n == ("__debug__" : Str)) = false) (hcd : (n == ("__classdict__" : Str)) = false) (ho : ρ[i]? = some (some (.ol rr xs)))
    (hb : PE X b (tD X.K ca W ρ mb)) (hs : PlainIx b := by intro _ _; rfl) : PE X (.Subscript (.Name n p0) b pos) (tD X.K ca W ρ (mb >>= fun y => D.item (.lst xs) y)) :=
  PE.of (pe_ix ix_seq (pe_var hN hv hd hcd) hb hs) fun σ H Q ⟨Hb, G, h⟩ => by
    obtain ⟨f, E, hf⟩ := h.env
    obtain ⟨p, us, hσ, hp, rl, fp, _⟩ := E.own ho
    refine ⟨.ref p, hσ, Hb, G, h.cut fun y G1 H1 _ g1 h1 w rw' => ?_⟩
    cases y with
    | int k =>
      cases rw'
      cases e : L2.atI xs k with
      | none => exact (h1.nb (by simp only [D.item, e, opt_none])).elim
      | some d =>
        obtain ⟨v, e1, r1⟩ := rl.atI e
        exact .inl ⟨_, _, _, _, rfl, rfl, SqL.of (g1.h _ _ hp), e1, h1.ok d (by simp only [D.item, e, opt_some]) _ _ (.refl h1.sub) v (r1.mono g1.g)⟩
    | _ => exact (h1.nb rfl).elim
/-- len(x) of one -/
theorem e_ownLen {n n1 : Str} {p0 p1 pos : Pos} (hN : X.N[i]? = some n) (hv : Vis X.env.scope n) (hd : (n == ("__debug__" : Str)) = false) (hcd : (n == ("__classdict__" : Str)) = false) (ho : ρ[i]? = some (some (.ol rr xs)))
    (hg : Gl X n1) (hm : X.mg n1 = none) (hb : bootBuiltins n1 = some (.builtin "len")) (hn : n1 ≠ "__name__" := by decide) (hdb : (n1 == ("__debug__" : Str)) = false := by decide)
    (he : starEach [.Name n p0] X.env = (false, eval (.Name n p0) X.env) :: starEach [] X.env := by rfl) (hpl : (backTo pos (starEach [] X.env)).any (·.1) = false := by rfl) :
    PE X (.Call (.Name n1 p1) [.Name n p0] [] pos) (tD X.K ca W ρ (.ok (.int xs.length))) :=
  PE.of (pe_callB call_len hg hm hb (pa_cons (pe_var hN hv hd hcd) pa_nil he) hn hdb he hpl) fun σ H Q ⟨Hb, G, h⟩ => by
    obtain ⟨f, E, hf⟩ := h.env
    obtain ⟨p, us, hσ, hp, rl, fp, _⟩ := E.own ho
    exact ⟨.ref p, hσ, .ref p, us.length, rfl, .inl ⟨us, SqL.of hp, rfl⟩, by rw [rl.length]; exact h.done _ (.int _)⟩
end
/-! ### the law's end -/
theorem law_sp {K : PySem.W.Frag} {ca : Nat → Addr} {F : List D → Res D} {H : Hp} {a : Addr} {ns : List Int} (hF : F [.lst (ns.map D.int)] = .ok (.bl true)) (hO : Only H) (hS : SqL K H a (ns.map V.int)) :
    spD K ca F [.ref a] H (fun v _ => v = .bl true) fun _ _ _ => False := by
  refine ⟨H, [.lst (ns.map D.int)], Same.refl _, .cons (.lst hS RL.ints) .nil, (by rw [hF]; intro z; cases z), fun d e G' H' g v rv => ?_, fun c e => (by rw [hF] at e; cases e)⟩
  rw [hF] at e
  cases e
  cases rv
  rfl
end Lk
namespace Lk
open PySem PySem.Spec PyProof.Rows L2
section
variable {K : PySem.W.Frag} {ca : Nat → Addr}
theorem l_lt : Lift2 K ca (rI0 fun i j => .bl (decide (i < j))) D.lt := l_cmpI
theorem l_le : Lift2 K ca (rI0 fun i j => .bl (decide (i ≤ j))) D.le := l_cmpI
theorem l_gt : Lift2 K ca (rI0 fun i j => .bl (decide (j < i))) D.gt := l_cmpI
theorem l_ge : Lift2 K ca (rI0 fun i j => .bl (decide (j ≤ i))) D.ge := l_cmpI
end
theorem b_len : bootBuiltins "len" = some (.builtin "len") := by decide +kernel
theorem b_min : bootBuiltins "min" = some (.builtin "min") := by decide +kernel
theorem b_max : bootBuiltins "max" = some (.builtin "max") := by decide +kernel
theorem b_sum : bootBuiltins "sum" = some (.builtin "sum") := by decide +kernel
theorem b_isinstance : bootBuiltins "isinstance" = some (.builtin "isinstance") := by decide +kernel
theorem b_int : bootBuiltins "int" = some (.type "int") := by decide +kernel
theorem b_bool : bootBuiltins "bool" = some (.type "bool") := by decide +kernel
theorem b_str : bootBuiltins "str" = some (.type "str") := by decide +kernel
theorem b_list : bootBuiltins "list" = some (.type "list") := by decide +kernel
theorem b_tuple : bootBuiltins "tuple" = some (.type "tuple") := by decide +kernel
/-- an own exception class: stands under ValueError, made with a text -/
structure ExcF (K : PySem.W.Frag) (mg : Str → Option Value) (n : Str) (C : Addr) : Prop where
  g : mg n = some (.ref C)
  x : PySem.W.excIn K C He.veBase "ValueError.__new__" = true
  kp : PySem.W.keepIn K (.ref C) = true
  sb : PySem.W.subIn K (.ref C) (.type "BaseException") = some true
  ty : PySem.W.typeIn K (.ref C) = some (.type "type")
theorem ExcF.of {K : PySem.W.Frag} {h : Heap} {mg : Str → Option Value} {n : Str} (X : K.In h) (G : h.Ns mainGlobals mg) (a : (He.Fa.glo n).ok K = true) (b : (He.Fa.exc n).ok K = true) : ExcF K mg n (He.ga K n) :=
  let q := He.exc_ok b
  ⟨He.glo_ok X G a, q.1, q.2.1, q.2.2.1, q.2.2.2⟩
theorem ExcF.made {X : Cx} {n m : Str} {C : Addr} {j : Nat} {p p2 pos : Pos} (E : ExcF X.K X.mg n C) (hg : Gl X n) (hdb : (n == ("__debug__" : Str)) = false := by decide) : PMk X (.Call (.Name n p) [.Constant (.str m) j p2] [] pos) (fun _ H Q => Q (.ref C) none H) :=
  pmk_own PySem.F.excBase_ValueError E.x E.g E.kp (raises_own E.sb E.ty) hg hdb
/-- what a promise's shape is -/
abbrev CalD (P : Program) (w : World) (K : PySem.W.Frag) (mg : Str → Option Value) (base : Heap) (ca : Nat → Addr) (n : Str) (k : Nat) (F : List D → Res D) : Prop := Cal P w K mg base n k (spD K ca F) []
abbrev CalL (P : Program) (w : World) (K : PySem.W.Frag) (mg : Str → Option Value) (base : Heap) (ca : Nat → Addr) (n : Str) (k : Nat) (F : List D → Res (List D)) : Prop := Cal P w K mg base n k (spL K ca F) []
end Lk
namespace Lk
open PySem PySem.Spec PyProof.Rows L2
theorem cx_no {P : Program} {w : World} {s : Shared} : ∀ (H : Hp) (e : Value) (s' : Shared), L2.CX P w [] H s (fun _ _ _ => False) e s' → False := by
  intro H e s' ⟨_, _, _, _, _, _, _, _, _, _, _, _, z⟩
  exact z
/-- a law whose promise is a function on data -/
theorem law_end {l : PySem.W.OpenLaw} {n k : Nat} {q : Program} {loose : List Str} {XP : (Str → Option Value) → Heap → Prop} {YP : World → Heap → Prop} {d : DefRec} {F : List D → Res D}
    (e1 : l.most = some n) (e2 : n ≤ sizeLine) (e3 : d.params.defaults = []) (e4 : Room k callerA) (hF : ∀ ns : List Int, ns.length ≤ n → F [.lst (ns.map D.int)] = .ok (.bl true))
    (U : ∀ (w : World) (mg : Str → Option Value) (fa : Addr) (h : Heap), YP w h → h.Ns mainGlobals mg → mg d.name = some (.ref fa) → ∃ (K : PySem.W.Frag) (ca : Nat → Addr), K.In h ∧
      ∃ fd : FuncData, (∀ (s : Shared) (v : Value), BindsTo s fd ⟨[v], []⟩ [("script", v)]) ∧ ∀ base : Heap, K.In base → base.Ns mainGlobals mg → FnOk l.prog w K mg base (L2.CX l.prog w) k fa fd ["script"] (spD K ca F)) :
    PySem.W.WalkO q loose XP YP l.row.toRowW d [] (fun f vs => PySem.call f vs) :=
  Att.attach_call e1 e3 fun w s₀ s₁ mg mb fa o pm cd doc a vs ns G Y ho hd hcd hmg hobj hints hlen hg => by
    obtain ⟨K, ca, KX, fd, hb, ok⟩ := U w mg fa _ Y G.T.g hmg
    refine law_call (CX := L2.CX l.prog w) KX G.T.g G.T.b ?_ ?_ hg hobj hints ?_ e4 ok hb ?_ cx_no
    · exact G.T.builtins
    · exact G.T.nolimit
    · exact Nat.le_trans hlen e2
    · exact fun H hO hS => law_sp (hF ns hlen) hO hS
end Lk
namespace Lk
open PySem PySem.Spec PyProof.Rows L2
def D.isB : D → D → Res D
  | .bl a, .bl b => .ok (.bl (decide (a = b)))
  | _, _ => .bug
def D.notB : D → D → Res D
  | .bl a, .bl b => .ok (.bl (!decide (a = b)))
  | _, _ => .bug
@[simp] theorem isB_bl (a b : Bool) : D.isB (.bl a) (.bl b) = .ok (.bl (decide (a = b))) := rfl
@[simp] theorem notB_bl (a b : Bool) : D.notB (.bl a) (.bl b) = .ok (.bl (!decide (a = b))) := rfl
def llB (sc : Scope) (x : Str) : Bool := match sc.names.lookup x with
  | some .local => true
  | _ => false
theorem lcl {sc : Scope} {N : List Str} (h : (N.all (llB sc)) = true) (i : Nat) {x : Str} (e : N[i]? = some x) : sc.names.lookup x = some .local := by
  have q := List.all_eq_true.mp h x (List.mem_of_getElem? e)
  unfold llB at q
  split at q
  · assumption
  · cases q
section
variable {K : PySem.W.Frag} {ca : Nat → Addr}
theorem bl2_inv {f : Bool → Bool → Bool} {g : D → D → Res D} (hg : ∀ x y, g x y ≠ .bug → ∃ a b, x = .bl a ∧ y = .bl b) (hf : ∀ a b, g (.bl a) (.bl b) = .ok (.bl (f a b))) :
    Lift2 K ca (fun x y H Q => ∃ a b, x = .bl a ∧ y = .bl b ∧ Q (.bl (f a b)) H) g := by
  intro Hb G H v w x y Q sb s rv rw' nb h
  obtain ⟨a, b, rfl, rfl⟩ := hg x y nb
  cases rv
  cases rw'
  exact ⟨a, b, rfl, rfl, fin2 s h (hf a b) (.bl _)⟩
theorem l_isB : Lift2 K ca (fun x y H Q => ∃ a b, x = .bl a ∧ y = .bl b ∧ Q (.bl (decide (a = b))) H) D.isB :=
  bl2_inv (f := fun a b => decide (a = b)) (fun x y h => by cases x <;> cases y <;> first | exact ⟨_, _, rfl, rfl⟩ | exact (h rfl).elim) fun _ _ => rfl
theorem l_notB : Lift2 K ca (fun x y H Q => ∃ a b, x = .bl a ∧ y = .bl b ∧ Q (.bl (!decide (a = b))) H) D.notB :=
  bl2_inv (f := fun a b => !decide (a = b)) (fun x y h => by cases x <;> cases y <;> first | exact ⟨_, _, rfl, rfl⟩ | exact (h rfl).elim) fun _ _ => rfl
end
section
variable {X : Cx} {ca : Nat → Addr} {W : WX} {ρ : Env} {a b c : Expr} {pos : Pos} {ma mb mc : Res D}
/-- a op b op c -/
theorem t_chain {op op' : CmpOp} {r r' : R2} {f g : D → D → Res D} (ho : OpR X (compareOp op) r) (l : Lift2 X.K ca r f) (ho' : OpR X (compareOp op') r') (l' : Lift2 X.K ca r' g)
    (ha : PE X a (tD X.K ca W ρ ma)) (hb : PE X b (tD X.K ca W ρ mb)) (hc : PE X c (tD X.K ca W ρ mc)) (hm : lastMarks [op, op'] [b, c] = false := by with_unfolding_all rfl) :
    PT X (.Compare a [op, op'] [b, c] pos) (tB X.K ca W ρ (ma >>= fun x => mb >>= fun y => f x y >>= D.toB >>= fun k => if k then mc >>= fun z => g y z >>= D.toB else .ok false)) :=
  PT.of (pt_chain ho ho' ha hb hc hm) fun σ H Q ⟨Hb, G, h⟩ => ⟨Hb, G, h.cut fun x G1 H1 _ g1 h1 v rv => ⟨Hb, G1, h1.cut fun y G2 H2 _ g2 h2 w rw' => by
    rw [bind_assoc'] at h2
    have h3 := h2.cut (P := fun z G' H' => ∀ v', R X.K ca G' v' z → ∃ k, v' = V.bl k ∧ (if k = true then tD X.K ca W ρ mc σ H' (fun w' H4 => r' w w' H4 fun x H' => ∃ k, x = V.bl k ∧ Q k H') else ∃ k, V.bl false = V.bl k ∧ Q k H')) fun z G3 H3 ez g3 h4 v' r3 => by
      cases z with
      | bl k =>
        cases r3
        refine ⟨k, rfl, ?_⟩
        cases k with
        | false => exact ⟨false, rfl, h4.done⟩
        | true =>
          refine ⟨Hb, G3, Cr.cut h4 fun z G4 H4 ez g4 h5 v4 r4 => ?_⟩
          have h6 := h5.cut (P := fun z G' H' => ∀ v', R X.K ca G' v' z → ∃ k, v' = V.bl k ∧ Q k H') fun z G5 H5 ez g5 h7 v' r' => by
            cases z with
            | bl k =>
              cases r'
              exact ⟨k, rfl, h7.done⟩
            | _ => exact (h7.nb rfl).elim
          exact l' h5.sb h5.sub ((rw'.mono g3.g).mono g4.g) r4 h6.nb fun z G' H' ez g' v' r' => h6.ok z ez G' H' g' v' r'
      | _ => exact (h4.nb rfl).elim
    exact l h2.sb h2.sub (rv.mono g2.g) rw' h3.nb fun z G' H' ez g' v' r' => h3.ok z ez G' H' g' v' r'⟩⟩
/-- .. as a value -/
theorem e_chain {op op' : CmpOp} {r r' : R2} {f g : D → D → Res D} (ho : OpR X (compareOp op) r) (l : Lift2 X.K ca r f) (ho' : OpR X (compareOp op') r') (l' : Lift2 X.K ca r' g)
    (ha : PE X a (tD X.K ca W ρ ma)) (hb : PE X b (tD X.K ca W ρ mb)) (hc : PE X c (tD X.K ca W ρ mc)) (hm : lastMarks [op, op'] [b, c] = false := by with_unfolding_all rfl) :
    PE X (.Compare a [op, op'] [b, c] pos) (tD X.K ca W ρ (ma >>= fun x => mb >>= fun y => f x y >>= D.toB >>= fun k => if k then mc >>= fun z => g y z else .ok (.bl false))) :=
  PE.of (pe_chain ho ho' ha hb hc hm) fun σ H Q ⟨Hb, G, h⟩ => ⟨Hb, G, h.cut fun x G1 H1 _ g1 h1 v rv => ⟨Hb, G1, h1.cut fun y G2 H2 _ g2 h2 w rw' => by
    rw [bind_assoc'] at h2
    have h3 := h2.cut (P := fun z G' H' => ∀ v', R X.K ca G' v' z → ∃ k, v' = V.bl k ∧ (if k = true then tD X.K ca W ρ mc σ H' (fun w' H4 => r' w w' H4 Q) else Q (V.bl false) H')) fun z G3 H3 ez g3 h4 v' r3 => by
      cases z with
      | bl k =>
        cases r3
        refine ⟨k, rfl, ?_⟩
        cases k with
        | false => exact h4.done _ (.bl _)
        | true =>
          exact ⟨Hb, G3, Cr.cut h4 fun z G4 H4 ez g4 h5 v4 r4 => l' h5.sb h5.sub ((rw'.mono g3.g).mono g4.g) r4 h5.nb fun z G' H' ez g' v' r' => h5.ok z ez G' H' g' v' r'⟩
      | _ => exact (h4.nb rfl).elim
    exact l h2.sb h2.sub (rv.mono g2.g) rw' h3.nb fun z G' H' ez g' v' r' => h3.ok z ez G' H' g' v' r'⟩⟩
end
section
variable {X : Cx} {ca : Nat → Addr} {W : WX} {ρ : Env} {n : Str} {p : Pos}
/-- a module's whole number -/
theorem e_gInt {i : Int} (hg : Gl X n) (h : ∃ t, X.mg n = some (.int i t)) (hd : (n == ("__debug__" : Str)) = false := by decide) : PE X (.Name n p) (tD X.K ca W ρ (.ok (.int i))) := by
  obtain ⟨t, h⟩ := h
  exact e_glob hg h (v := .int i) ⟨t, rfl⟩ (fun _ => .int _) hd
/-- a module's text -/
theorem e_gStr {z : Str} (hg : Gl X n) (h : ∃ t, X.mg n = some (.str z t)) (hd : (n == ("__debug__" : Str)) = false := by decide) : PE X (.Name n p) (tD X.K ca W ρ (.ok (.str z))) := by
  obtain ⟨t, h⟩ := h
  exact e_glob hg h (v := .str z) ⟨t, rfl⟩ (fun _ => .str _) hd
end
section
variable {X : Cx} {ca : Nat → Addr} {W : WX} {ρ : Env} {tg iter elt : Expr} {ifs : List Expr} {scope : Scope} {own : List (Str × Nat)} {pos : Pos} {mi : Res (List D)} {i j l : Nat} {n m o : Str} {p q u t : Pos} {kk : Nat}
def lcF3 (mt : D → D → D → Res Bool) (me : D → D → D → Res D) : D → Res (Option D) := un3 fun x y z => mt x y z >>= fun b => if b then me x y z >>= fun r => .ok (some r) else .ok none
theorem turnT3 {mt : D → D → D → Res Bool} {me : D → D → D → Res D} (hi : i < X.N.length) (hj : j < X.N.length) (hk : l < X.N.length) {vs : List Nat} (hv : i ∈ vs) (hv2 : j ∈ vs) (hv3 : l ∈ vs) :
    LcTurn X ca ρ vs (gTup X.K 3 (gCons (gName i) (gCons (gName j) (gCons (gName l) gNil)))) (fun σ H Q => ∃ x y z, tB X.K ca W0 (((ρ.set i (some (.d x))).set j (some (.d y))).set l (some (.d z))) (mt x y z) σ H Q)
      (fun σ H Q => ∃ x y z, tD X.K ca W0 (((ρ.set i (some (.d x))).set j (some (.d y))).set l (some (.d z))) (me x y z) σ H Q) (lcF3 mt me) := by
  intro σ x G H f v Ky Kn hl E r nb ky kn
  have nb0 : lcF3 mt me x ≠ .bug := fun z => nb (by rw [z]; rfl)
  obtain ⟨x1, x2, x3, rfl⟩ := un3_inv nb0
  have ef : lcF3 mt me (.tup [x1, x2, x3]) = (mt x1 x2 x3 >>= fun b => if b then me x1 x2 x3 >>= fun r => .ok (some r) else .ok none) := rfl
  rw [ef] at nb
  cases r with
  | tup q1 q2 =>
    cases q2 with
    | cons r1 q2 => cases q2 with
      | cons r2 q2 => cases q2 with
        | cons r3 q2 =>
          cases q2
          rename_i v1 v2 v3
          have hiσ : i < (wipe σ vs).length := by rw [wipe_length, hl]; exact hi
          have hjσ : j < ((wipe σ vs).set i (some v1)).length := by rw [List.length_set, wipe_length, hl]; exact hj
          have hkσ : l < (((wipe σ vs).set i (some v1)).set j (some v2)).length := by rw [List.length_set, List.length_set, wipe_length, hl]; exact hk
          have E1 := ((E.put hiσ r1).put hjσ r2).put hkσ r3
          refine ⟨_, _, rfl, Same.sqT E.sub q1, rfl, _, _, rfl, _, _, rfl, _, _, rfl, rfl, wipe_eq (by rw [List.length_set, List.length_set, List.length_set, wipe_length]) fun k hk' => ?_, x1, x2, x3, H, G, ?_⟩
          · rw [List.getElem?_set_ne (fun e => hk' (by rw [← e]; exact hv3)), List.getElem?_set_ne (fun e => hk' (by rw [← e]; exact hv2)), List.getElem?_set_ne (fun e => hk' (by rw [← e]; exact hv))]
          have C : Cr X.K ca W0 (((ρ.set i (some (.d x1))).set j (some (.d x2))).set l (some (.d x3))) ((((wipe σ vs).set i (some v1)).set j (some v2)).set l (some v3)) H G H (mt x1 x2 x3 >>= fun b => if b then me x1 x2 x3 >>= fun y => .ok (some y) else .ok none) (fun o G' H' => match o with | some y => ∀ w, R X.K ca G' w y → Ky w H' | none => Kn H') := by
            refine ⟨Same.refl _, ⟨_, E1, fun k a q => (E1.out k a q).2⟩, fun e => nb (by rw [e]; rfl), fun o e G' H' gb => ?_, fun c e => (nb (by rw [e]; rfl)).elim⟩
            cases o with
            | some y => exact fun w rw' => ky y G' H' (by rw [ef, e]; rfl) gb w rw'
            | none => exact kn G' H' (by rw [ef, e]; rfl) gb
          exact C.cut fun b G1 H1 eb g1 h1 => by
            cases b with
            | true => exact ⟨x1, x2, x3, H, G1, Cr.cut h1 fun z G2 H2 ez g2 h2 w rw' => h2.done w rw'⟩
            | false => exact h1.done
theorem e_lcT3 {mt : D → D → D → Res Bool} {me : D → D → D → Res D} (hc : X.calm = true) (hN : X.N.Nodup) (hi : PI X (.Tuple [.Name n p, .Name m q, .Name o u] kk t) iter (tIt X.K ca W ρ mi)) (hn : X.N[i]? = some n) (hm : X.N[j]? = some m) (ho : X.N[l]? = some o)
    (ok : BlkOk X.N X.env.scope scope own) {ρi : Env} (lei : Env.le ρi ρ) (hcl : clearE ρi (own.map (·.2)) = true) (hv : i ∈ own.map (·.2)) (hv2 : j ∈ own.map (·.2)) (hv3 : l ∈ own.map (·.2))
    (hg : ∀ (s : Shared) (H : Hp) (C : Addr) (cl : List (Str × Addr)) (fp : List Addr), PG (X.blk s H scope (compEnvC scope cl C X.env) fp) (.Tuple [.Name n p, .Name m q, .Name o u] kk t) (gTup X.K 3 (gCons (gName i) (gCons (gName j) (gCons (gName l) gNil)))))
    (ht : ∀ (x y z : D) (s : Shared) (H : Hp) (C : Addr) (cl : List (Str × Addr)) (fp : List Addr), PTs (X.blk s H scope (compEnvC scope cl C X.env) fp) ifs (tB X.K ca W0 (((ρi.set i (some (.d x))).set j (some (.d y))).set l (some (.d z))) (mt x y z)))
    (he : ∀ (x y z : D) (s : Shared) (H : Hp) (C : Addr) (cl : List (Str × Addr)) (fp : List Addr), PE (X.blk s H scope (compEnvC scope cl C X.env) fp) elt (tD X.K ca W0 (((ρi.set i (some (.d x))).set j (some (.d y))).set l (some (.d z))) (me x y z)))
    (hs : ∀ x, foldedSetIterable iter X.env x = pure x := by intro _; rfl) :
    PE X (.ListComp elt [⟨.Tuple [.Name n p, .Name m q, .Name o u] kk t, iter, ifs, 0⟩] scope pos) (tL X.K ca W ρ (mi >>= fun xs => lcSize xs >>= fun xs => compR (lcF3 mt me) xs)) := by
  refine ⟨fun pins s σ H Q I h => ?_⟩
  refine (pe_lc (tt := fun σ H Q => ∃ x y z, tB X.K ca W0 (((ρi.set i (some (.d x))).set j (some (.d y))).set l (some (.d z))) (mt x y z) σ H Q) (te := fun σ H Q => ∃ x y z, tD X.K ca W0 (((ρi.set i (some (.d x))).set j (some (.d y))).set l (some (.d z))) (me x y z) σ H Q) hc hN hi ok hg
    (fun s H C cl fp => ⟨fun pins s σ H Q I ⟨x, y, z, q⟩ => (ht x y z _ _ C cl fp).run pins s σ H Q I q⟩) (fun s H C cl fp => ⟨fun pins s σ H Q I ⟨x, y, z, q⟩ => (he x y z _ _ C cl fp).run pins s σ H Q I q⟩) hs).run pins s σ H Q I ?_
  exact lc_read lei (turnT3 (List.getElem?_eq_some_iff.mp hn).1 (List.getElem?_eq_some_iff.mp hm).1 (List.getElem?_eq_some_iff.mp ho).1 hv hv2 hv3) hcl I.len h
end
end Lk
namespace Lk
open PySem PySem.Spec PyProof.Rows L2
/-- a def that can be called with np values and keywords ks, which are its last parameters -/
structure CalK (P : Program) (w : World) (K : PySem.W.Frag) (mg : Str → Option Value) (base : Heap) (n : Str) (k : Nat) (sp : Sp) (np : Nat) (ks : List Str) : Prop where
  ex : ∃ (f : Addr) (fd : FuncData) (ps : List Str) (g : List Value → List Value → List Value), FnOk P w K mg base (L2.CX P w) k f fd ps sp ∧ mg n = some (.ref f) ∧ PySem.W.keepIn K (.ref f) = true ∧ KBn K fd ps np ks g (fun vs zs => vs ++ zs)
def kwR (np m : Nat) (F : List D → Res D) (ds es : List D) : Res D := if ds.length = np ∧ es.length = m then F (ds ++ es) else .bug
section
variable {X : Cx} {ca : Nat → Addr} {W : WX} {ρ : Env} {n : Str} {k np : Nat} {sp : Sp} {e : Expr} {es : List Expr} {kws : List Keyword} {p pos : Pos} {mas mks : Res (List D)} {ks : List Str}
theorem kw_one {m : Str} {kpos : Pos} {ma : Res D} (ha : PE X e (tD X.K ca W ρ ma)) : PK X [⟨some m, e, kpos⟩] (tArg X.K ca W ρ (ma >>= fun x => .ok [x])) :=
  ⟨fun pos pins s σ H Q I h => (pk_cons ha pk_nil).run pos pins s σ H Q I (let ⟨Hb, G, h⟩ := h; ⟨Hb, G, h.cut fun x G1 H1 _ g1 h1 v rv => h1.done [v] (.cons rv .nil)⟩)⟩
theorem e_callK {F : List D → Res D} (c : CalK X.prog X.w X.K X.mg X.base n k (spD X.K ca F) np ks) (hr : Room k X.A) (hg : Gl X n) (tk : TkE X W) (ha : PA X (e :: es) (tArg X.K ca W ρ mas)) (hkw : PK X kws (tArg X.K ca W ρ mks))
    (hall : (backToKw pos (keywordEach kws X.env)).all (·.1.isSome) = true := by rfl) (hks : (backToKw pos (keywordEach kws X.env)).filterMap (·.1) = ks := by rfl)
    (hdb : (n == ("__debug__" : Str)) = false := by decide) (he : starEach (e :: es) X.env = (false, eval e X.env) :: starEach es X.env := by rfl)
    (hpl : ((backTo pos (starEach (e :: es) X.env)).any (·.1) || (backToKw pos (keywordEach kws X.env)).any (·.1.isNone)) = false := by rfl) :
    PE X (.Call (.Name n p) (e :: es) kws pos) (tD X.K ca W ρ (mas >>= fun ds => mks >>= fun es => kwR np ks.length F ds es)) := by
  obtain ⟨f, fd, ps, g, FO, hm, hk, hb⟩ := c.ex
  refine ⟨fun pins s σ H Q I ⟨Hb, G, h⟩ => ?_⟩
  refine wpAny_Call_Name_kw (ld_glob I hg hm ?_ hdb)
  refine PySem.W.callWith_KW (h₀ := X.base) I.ok.mod.kin hk hall (thn (ha.run pos pins s σ H (fun vs H1 => tArg X.K ca W ρ mks σ H1 fun zs H2 => vs.length = np ∧ zs.length = ks.length ∧ spD X.K ca F (vs ++ zs) H2 Q (WE W σ)) I ⟨Hb, G, h.cut fun ds G1 H1 _ g1 h1 vs rvs => ⟨Hb, G1, h1.cut fun zs G2 H2 _ g2 h2 us rus => ?_⟩⟩) fun us s1 ⟨vs, H1, I1, r, q⟩ => ?_) hpl he
  · by_cases q : ds.length = np ∧ zs.length = ks.length
    · unfold kwR at h2
      rw [if_pos q] at h2
      exact ⟨by rw [rvs.length]; exact q.1, by rw [rus.length]; exact q.2, spD_of h2 ((rvs.mono g2.g).append rus)⟩
    · exact (h2.nb (by unfold kwR; rw [if_neg q])).elim
  refine thn (hkw.run pos pins s1 σ H1 _ I1 q) fun ws s2 ⟨zs, H2, I2, rz, l1, l2, q2⟩ => ⟨I2.kIn, ?_⟩
  rw [hks]
  have r2 := hb.rel r rz
  refine wpAny_call (codeAny_mono (FO.run X.A X.stack s2 H2 ⟨us, ks.zip ws⟩ (g us ws) (vs ++ zs) Q (WE W σ) hr I2.env0 (hb.to s2 us ws I2.kIn (r.length.symm.trans l1) (rz.length.symm.trans l2)) r2 q2) fun r s' hq => ?_)
  cases r with
  | error e => exact tk σ pins H2 s2 e s' I2 hq
  | ok fl =>
    cases fl with
    | ret u => exact I2.after hq
    | next => exact False.elim hq
    | brk => exact False.elim hq
    | cont => exact False.elim hq
end
/-! ### the sum of a tuple -/
def rSumT (K : PySem.W.Frag) : List V → Hp → VK → Prop := fun vs H Q => ∃ (a : Addr) (ns : List Int), vs = [V.ref a] ∧ SqT K H a (ns.map V.int) ∧ Q (.int ns.sum) H
theorem cr_sumT {X : Cx} (hc : X.calm = true) : CallR X (.builtin "sum") (rSumT X.K) := by
  intro pins s σ H vs us Q I r h
  obtain ⟨a, ns, rfl, hs, q⟩ := h
  obtain ⟨its, rv, hl, _⟩ := I.tuple hs
  rw [Vals.ref1 r]
  obtain ⟨xs, hx⟩ := rv.ints.allInts.items
  have hn : numsOf its.toArray.toList = ns := by rw [show its.toArray.toList = its from rfl]; exact rv.ints.numsOf
  have hl2 : s.heap.IsTuple a its.toArray := hl
  rw [hx] at hl2 hn
  rw [nums_intItems] at hn
  refine PySem.W.ktm_sumG (I.ok.hd hc) hl2 fun h' tk t' hk => ?_
  rw [preSum_eq, List.take_of_length_le (by simp), hn]
  exact ⟨.int _, H, I.kept hk, ⟨_, rfl⟩, q⟩
def D.sumA : List D → Res D := one fun
  | .lst xs => (match D.ints xs with | some ns => .ok (.int ns.sum) | none => .bug)
  | .tup xs => (match D.ints xs with | some ns => .ok (.int ns.sum) | none => .bug)
  | _ => .bug
@[simp] theorem sumA_ints (ns : List Int) : D.sumA [.lst (ns.map D.int)] = .ok (.int ns.sum) := by simp [D.sumA, one]
@[simp] theorem sumA_tup (ns : List Int) : D.sumA [.tup (ns.map D.int)] = .ok (.int ns.sum) := by simp [D.sumA, one]
theorem cr_sumA {X : Cx} (hc : X.calm = true) : CallR X (.builtin "sum") (fun vs H Q => rSum X.K vs H Q ∨ rSumT X.K vs H Q) := (cr_sum hc).or (cr_sumT hc)
theorem l_sumA {K : PySem.W.Frag} {ca : Nat → Addr} : LiftA K ca (fun vs H Q => rSum K vs H Q ∨ rSumT K vs H Q) D.sumA := by
  intro Hb G H vs xs Q sb s r nb h
  obtain ⟨x, v, rfl, rfl, r1⟩ := RL.one nb r
  cases x <;> try exact (nb rfl).elim
  · rename_i ys
    cases e : D.ints ys with
    | none => exact (nb (by simp [D.sumA, one, e])).elim
    | some ns =>
      have e' := ints_inv e
      subst e'
      cases r1 with
      | lst q1 q2 =>
        have e2 := q2.ints_inv
        subst e2
        exact .inl ⟨_, ns, rfl, Same.sqL s q1, h _ _ _ (sumA_ints ns) (.refl s) _ (.int _)⟩
  · rename_i ys
    cases e : D.ints ys with
    | none => exact (nb (by simp [D.sumA, one, e])).elim
    | some ns =>
      have e' := ints_inv e
      subst e'
      cases r1 with
      | tup q1 q2 =>
        have e2 := q2.ints_inv
        subst e2
        exact .inr ⟨_, ns, rfl, Same.sqT s q1, h _ _ _ (sumA_tup ns) (.refl s) _ (.int _)⟩
/-! ### try -/
/-- p: which of the refusals the clause takes; h: the suite, told the refusal and the owned things as they stand then -/
def tryR {S B T : Type} (p : Nat → Option Bool) (m : Res (Out S B T)) (h : Nat → Res (Out S B T)) (hs : Nat → List O → Res (Out S B T)) : Res (Out S B T) := match m with
  | .exc c => (match p c with
    | some true => h c
    | some false => .exc c
    | none => .bug)
  | .ok (.ra c os) => (match p c with
    | some true => hs c os
    | some false => .exc c
    | none => .bug)
  | m => m
section
variable {S B T : Type} {p : Nat → Option Bool} {h : Nat → Res (Out S B T)} {hs : Nat → List O → Res (Out S B T)} {c : Nat} {os : List O}
@[simp] theorem try_nx (s : S) : tryR p (.ok (.nx s)) h hs = .ok (.nx s) := rfl
@[simp] theorem try_bk (s : B) : tryR p (.ok (.bk s)) h hs = .ok (.bk s) := rfl
@[simp] theorem try_ct (s : B) : tryR p (.ok (.ct s)) h hs = .ok (.ct s) := rfl
@[simp] theorem try_rt (s : T) : tryR p (.ok (.rt s)) h hs = .ok (.rt s) := rfl
theorem try_exc (e : p c = some true) : tryR p (.exc c) h hs = h c := by
  show (match p c with | some true => h c | some false => Res.exc c | none => Res.bug) = h c
  rw [e]
theorem try_exc_no (e : p c = some false) : tryR p (.exc c) h hs = .exc c := by
  show (match p c with | some true => h c | some false => Res.exc c | none => Res.bug) = .exc c
  rw [e]
theorem try_ra (e : p c = some true) : tryR p (.ok (.ra c os)) h hs = hs c os := by
  show (match p c with | some true => hs c os | some false => Res.exc c | none => Res.bug) = hs c os
  rw [e]
theorem try_ra_no (e : p c = some false) : tryR p (.ok (.ra c os)) h hs = .exc c := by
  show (match p c with | some true => hs c os | some false => Res.exc c | none => Res.bug) = .exc c
  rw [e]
end
section
variable {X : Cx} {ca : Nat → Addr} {S B T : Type} {W : WX} {ρ : Env} {ρx : EX} {emb : S → Env} {embB : B → Env} {out : T → RtP} {x : Str} {c : Value} {body suite : List Stmt} {b₀ : Stmt} {np pos pos' : Pos} {M : Res (Out S B T)} {Mh : Nat → Res (Out S B T)} {Ms : Nat → List O → Res (Out S B T)} {pp : Nat → Option Bool}
/-- what is wanted where the body's refusal j is caught or goes on -/
theorem try_how {K : PySem.W.Frag} {D : Ends} {G H : Hp} {F : AS} (hp : ∀ j b, pp j = some b → PySem.W.exmOne K (.ref (ca j)) c = some b) {ρb : EX} (le : Env.le ρx.e ρb.e) (le2 : ∀ os, Env.le ρx.e (ρb.emb os)) {Wi : WX}
    (h : So K ca W ρx emb embB out D G H F (tryR pp M Mh Ms)) 
    (hw : ∀ j b σ' H', PySem.W.exmOne K (.ref (ca j)) c = some b → (b = true → (∃ G' f', Evo G H F G' H' (All f') ∧ EnvOk K ca G' H' σ' ρb.e f' ∧ So K ca W ρx emb embB out D G' H' (All f') (Mh j)) ∨ (∃ os G' f', Evo G H F G' H' (All f') ∧ EnvOk K ca G' H' σ' (ρb.emb os) f' ∧ So K ca W ρx emb embB out D G' H' (All f') (Ms j os))) → (b = false → W (.ref (ca j)) none σ' H') → Wi (.ref (ca j)) none σ' H') :
    So K ca Wi ρb emb embB out D G H F M := by
  refine ⟨fun z => h.nb (by rw [z]; rfl), fun s z => h.nx s (by rw [z]; rfl), fun s z => h.bk s (by rw [z]; rfl), fun s z => h.ct s (by rw [z]; rfl), fun r z => h.rt r (by rw [z]; rfl), fun j z σ' G' H' f' v' E' => ?_, fun j os z σ' G' H' f' v' E' => ?_⟩
  · rw [z] at h
    cases q : pp j with
    | none => exact (h.nb (by show (match pp j with | some true => Mh j | some false => Res.exc j | none => Res.bug) = Res.bug; rw [q])).elim
    | some b =>
      refine hw j b σ' H' (hp j b q) (fun e => .inl ⟨G', f', v', E', ?_⟩) (fun e => ?_)
      · subst e
        rw [try_exc q] at h
        exact h.on v'
      · subst e
        exact h.ex j (try_exc_no q) σ' G' H' f' v' (E'.weak le)
  · rw [z] at h
    cases q : pp j with
    | none => exact (h.nb (by show (match pp j with | some true => Ms j os | some false => Res.exc j | none => Res.bug) = Res.bug; rw [q])).elim
    | some b =>
      refine hw j b σ' H' (hp j b q) (fun e => .inr ⟨os, G', f', v', E', ?_⟩) (fun e => ?_)
      · subst e
        rw [try_ra q] at h
        exact h.on v'
      · subst e
        exact h.ex j (try_ra_no q) σ' G' H' f' v' (E'.weak (le2 os))
def pkE (ρb : EX) : Nat ⊕ (Nat × List O) → Env
  | .inl _ => ρb.e
  | .inr q => ρb.emb q.2
def pkM {α : Type} (Mh : Nat → α) (Ms : Nat → List O → α) : Nat ⊕ (Nat × List O) → α
  | .inl j => Mh j
  | .inr q => Ms q.1 q.2
def pkJ : Nat ⊕ (Nat × List O) → Nat
  | .inl j => j
  | .inr q => q.1
theorem s_try (hs : X.stack = X.env :: X.outer) (hf : X.env.frame = some X.env.locals) (hc : Names X x c) (tk : Takes X W) (hp : ∀ j b, pp j = some b → PySem.W.exmOne X.K (.ref (ca j)) c = some b) {ρb : EX} (le : Env.le ρx.e ρb.e) (le2 : ∀ os, Env.le ρx.e (ρb.emb os))
    (hb : ∀ (W' : WX) (pn : List (Addr × Obj)) (xe : Value → Shared → Prop), Takes (X.tr pn xe) W' → PassesOwn (model X.prog X.w) X.A X.env xe → PSs (X.tr pn xe) body (tS X.K ca W' ρb emb embB out ρ M))
    (hh : ∀ (j : Nat) (a : Addr) (pn : List (Addr × Obj)), PSs (X.suite a pn) (b₀ :: suite) (tS X.K ca W ρx emb embB out ρb.e (Mh j)))
    (hh2 : ∀ (j : Nat) (os : List O) (a : Addr) (pn : List (Addr × Obj)), PSs (X.suite a pn) (b₀ :: suite) (tS X.K ca W ρx emb embB out (ρb.emb os) (Ms j os))) :
    PS X (.Try body [.ExceptHandler (some (.Name x np)) none (b₀ :: suite) pos'] [] [] pos) (tS X.K ca W ρx emb embB out ρ (tryR pp M Mh Ms)) := by
  refine PS.of (ps_try_only (tb := fun W' => tS X.K ca W' ρb emb embB out ρ M) (ts := fun _ _ _ => fun D σ H => ∃ q : Nat ⊕ (Nat × List O), tS X.K ca W ρx emb embB out (pkE ρb q) (pkM Mh Ms q) D σ H) hs hf hc tk hb fun a oe cls d pn _ _ => PSs.any fun q => match q with
    | .inl j => hh j a _
    | .inr q => hh2 q.1 q.2 a _) fun D σ H ⟨G, f, E, h⟩ => ⟨G, f, E, try_how hp le le2 h fun j b σ' H' hx hyes hno => ⟨b, hx, fun e a ha => ?_, hno⟩⟩
  rcases hyes e with ⟨G', f', v', E', h'⟩ | ⟨os, G', f', v', E', h'⟩
  · exact ⟨.inl j, G', f', E', h'⟩
  · exact ⟨.inr (j, os), G', f', E', h'⟩
theorem PSs.pre {X : Cx} {e : List Stmt} {t : TS} {P : Prop} (h : P → PSs X e t) : PSs X e (fun D σ H => P ∧ t D σ H) := ⟨fun pins s σ H D I ⟨p, q⟩ => (h p).run pins s σ H D I q⟩
/-- nothing is known of a slot -/
theorem EnvOk.unset {K : PySem.W.Frag} {G H : Hp} {σ : L2.St} {f : Nat → AS} {i : Nat} (E : EnvOk K ca G H σ ρ f) (hc : clearE ρ [i] = true) : EnvOk K ca G H (σ.set i none) ρ f := by
  refine ⟨E.sub, fun j o h => ?_, E.sep, E.out⟩
  obtain ⟨v, q1, q2⟩ := E.slot j o h
  refine ⟨v, ?_, q2⟩
  rw [List.getElem?_set_ne (fun e => clearE_not hc h (by rw [e]; exact List.mem_cons_self))]
  exact q1
theorem So.unset {K : PySem.W.Frag} {D : Ends} {G H : Hp} {F : AS} {i : Nat} (h : So K ca W ρx emb embB out D G H F M) (c1 : ∀ s, clearE (emb s) [i] = true) (c2 : ∀ s, clearE (embB s) [i] = true) :
    So K ca W ρx emb embB out { nx := fun σ' H' => D.nx (σ'.set i none) H', rt := D.rt, bk := fun σ' H' => D.bk (σ'.set i none) H', ct := fun σ' H' => D.ct (σ'.set i none) H' } G H F M :=
  ⟨h.nb, fun s z σ' G' H' f' v E => h.nx s z _ G' H' f' v (E.unset (c1 s)), fun s z σ' G' H' f' v E => h.bk s z _ G' H' f' v (E.unset (c2 s)), fun s z σ' G' H' f' v E => h.ct s z _ G' H' f' v (E.unset (c2 s)), h.rt, h.ex, h.ra⟩
theorem EnvOk.putR {K : PySem.W.Frag} {G H : Hp} {σ : L2.St} {f : Nat → AS} (E : EnvOk K ca G H σ ρ f) {v : V} {i : Nat} (hi : i < σ.length) :
    EnvOk K ca G H (σ.set i (some v)) (ρ.set i (some (.raw v))) (fun j => if j = i then none_ else f j) := E.store hi .raw fun a z => z.elim
/-- except X as n -/
theorem s_tryAs {n : Str} {i : Nat} (hs : X.stack = X.env :: X.outer) (hf : X.env.frame = some X.env.locals) (hN : X.N.Nodup) (hi : X.N[i]? = some n) (hln : X.env.kindOf n = some .local) (hc : Names X x c) (tk : Takes X W)
    (hp : ∀ j b, pp j = some b → PySem.W.exmOne X.K (.ref (ca j)) c = some b) {ρb : EX} (le : Env.le ρx.e ρb.e) (le2 : ∀ os, Env.le ρx.e (ρb.emb os)) (c1 : ∀ s, clearE (emb s) [i] = true) (c2 : ∀ s, clearE (embB s) [i] = true)
    (hb : ∀ (W' : WX) (pn : List (Addr × Obj)) (xe : Value → Shared → Prop), Takes (X.tr pn xe) W' → PassesOwn (model X.prog X.w) X.A X.env xe → PSs (X.tr pn xe) body (tS X.K ca W' ρb emb embB out ρ M))
    (hh : ∀ (j : Nat) (a : Addr) (oe : Obj) (pn : List (Addr × Obj)), Zc (.ref (ca j)) none oe → (∃ vs, oe.data = .fields vs) → PSs (X.suite a ((a, oe) :: pn)) (b₀ :: suite) (tS X.K ca W ρx emb embB out (ρb.e.set i (some (.raw (.ref a)))) (Mh j)))
    (hh2 : ∀ (j : Nat) (os : List O) (a : Addr) (oe : Obj) (pn : List (Addr × Obj)), Zc (.ref (ca j)) none oe → (∃ vs, oe.data = .fields vs) → PSs (X.suite a ((a, oe) :: pn)) (b₀ :: suite) (tS X.K ca W ρx emb embB out ((ρb.emb os).set i (some (.raw (.ref a)))) (Ms j os))) :
    PS X (.Try body [.ExceptHandler (some (.Name x np)) (some n) (b₀ :: suite) pos'] [] [] pos) (tS X.K ca W ρx emb embB out ρ (tryR pp M Mh Ms)) := by
  refine PS.of (ps_try_as (i := i) (tb := fun W' => tS X.K ca W' ρb emb embB out ρ M) (ts := fun a cls d => fun D σ H => ∃ q : Nat ⊕ (Nat × List O), (cls = .ref (ca (pkJ q)) ∧ d = none) ∧ ∃ σ0 G f, σ = σ0.set i (some (.ref a)) ∧
      EnvOk X.K ca G H σ0 (pkE ρb q) f ∧ So X.K ca W ρx emb embB out D G H (All f) (pkM Mh Ms q)) hs hf hN hi hln hc tk hb fun a oe cls d pn hz hfs => PSs.any fun q => PSs.pre fun hcd => ?_) fun D σ H ⟨G, f, E, h⟩ => ⟨G, f, E, ?_⟩
  · have key : PSs (X.suite a ((a, oe) :: pn)) (b₀ :: suite) (tS X.K ca W ρx emb embB out ((pkE ρb q).set i (some (.raw (.ref a)))) (pkM Mh Ms q)) := by
      obtain ⟨hc1, hc2⟩ := hcd
      subst hc1 hc2
      cases q with
      | inl j => exact hh j a oe pn hz hfs
      | inr q => exact hh2 q.1 q.2 a oe pn hz hfs
    refine PSs.ofI key fun D σ H hl ⟨σ0, G, f, es, E, h⟩ => ?_
    subst es
    rw [List.length_set] at hl
    have hiσ : i < σ0.length := by rw [hl]; exact (List.getElem?_eq_some_iff.mp hi).1
    exact ⟨G, _, E.putR hiσ, h.on ((Evo.refl E.sub).less fun x z => (all_put z).elim False.elim id)⟩
  · refine try_how hp le le2 h fun j b σ' H' hx hyes hno => ⟨b, hx, fun e a ha => ?_, hno⟩
    rcases hyes e with ⟨G', f', v', E', h'⟩ | ⟨os, G', f', v', E', h'⟩
    · exact ⟨.inl j, ⟨rfl, rfl⟩, σ', G', f', rfl, E', h'.unset c1 c2⟩
    · exact ⟨.inr (j, os), ⟨rfl, rfl⟩, σ', G', f', rfl, E', h'.unset c1 c2⟩
end
/-! ### isinstance of the refusal that a suite holds -/
def D.isE (tb : Nat → Option Bool) (j : Nat) : Res D := Res.opt ((tb j).map D.bl)
section
variable {X : Cx} {ca : Nat → Addr} {W : WX} {ρ : Env} {a : Addr} {oe : Obj} {pn : List (Addr × Obj)} {j i : Nat} {tb : Nat → Option Bool} {n n1 : Str} {p1 p0 pos : Pos} {c : V} {cv : Value} {ce : Expr}
theorem rel_raw {X : Cx} {e : Expr} {v : V} {n : Str} {p : Pos} (hN : X.N[i]? = some n) (hv : Vis X.env.scope n) (hd : (n == ("__debug__" : Str)) = false) (hcd : (n == ("__classdict__" : Str)) = false) (ho : ρ[i]? = some (some (.raw v))) :
    PE X (.Name n p) (fun σ H Q => (∃ G f, EnvOk X.K ca G H σ ρ f) ∧ Q v H) :=
  PE.of (pe_var hN hv hd hcd) fun σ H Q ⟨⟨G, f, E⟩, q⟩ => by
    obtain ⟨w, q1, q2⟩ := E.slot i _ ho
    cases q2
    exact ⟨v, q1, q⟩
theorem e_isE (hz : Zc (.ref (ca j)) none oe) (hfs : ∃ vs, oe.data = .fields vs) (hC : ∀ j b, tb j = some b → ExcC X.K (ca j) ∧ PySem.W.kitOne X.K (.ref (ca j)) cv = some b)
    (hN : X.N[i]? = some n) (hv : Vis X.env.scope n) (hd : (n == ("__debug__" : Str)) = false) (hcd : (n == ("__classdict__" : Str)) = false) (ho : ρ[i]? = some (some (.raw (.ref a))))
    (hg : Gl X n1) (hm : X.mg n1 = none) (hvb : bootBuiltins n1 = some (.builtin "isinstance")) (hce : PE (X.suite a ((a, oe) :: pn)) ce (tC c)) (hcv : ∀ u, RelV c u → u = cv) (hn : n1 ≠ "__name__" := by decide) (hdb : (n1 == ("__debug__" : Str)) = false := by decide)
    (he : starEach [.Name n p0, ce] X.env = (false, eval (.Name n p0) X.env) :: starEach [ce] X.env := by rfl) (hpl : (backTo pos (starEach [ce] X.env)).any (·.1) = false := by rfl) (hs2 : starEach [ce] X.env = (false, eval ce X.env) :: starEach [] X.env := by rfl) :
    PE (X.suite a ((a, oe) :: pn)) (.Call (.Name n1 p1) [.Name n p0, ce] [] pos) (tD X.K ca W ρ (D.isE tb j)) := by
  cases e : tb j with
  | none => exact ⟨fun pins s σ H Q I ⟨Hb, G, h⟩ => (h.nb (by unfold D.isE; rw [e]; rfl)).elim⟩
  | some b =>
    obtain ⟨C1, k1⟩ := hC j b e
    refine PE.of (pe_callB (X := X.suite a ((a, oe) :: pn)) (call_isE C1 hz hfs) hg hm hvb (pa_cons (pe_var (X := X.suite a ((a, oe) :: pn)) hN hv hd hcd) (pa_cons hce pa_nil hs2) he) hn hdb he hpl) fun σ H Q ⟨Hb, G, h⟩ => ?_
    obtain ⟨f, E, hf⟩ := h.env
    obtain ⟨w, q1, q2⟩ := E.slot i _ ho
    cases q2
    exact ⟨_, q1, c, cv, b, rfl, hcv, k1, h.ok (.bl b) (by unfold D.isE; rw [e]; rfl) _ _ (.refl E.sub) _ (.bl b)⟩
/-- isinstance(e, (c1, c2, ..)) -/
def rIsET (K : PySem.W.Frag) (D a : Addr) : List V → Hp → VK → Prop := fun xs H Q => ∃ (tp : Addr) (cs : List V) (us : List Value) (b : Bool), xs = [.ref a, .ref tp] ∧ H tp = some (.tup cs) ∧ Paired ClsV cs us ∧ PySem.W.kitAny K (.ref D) us = some b ∧ Q (.bl b) H
theorem call_isET {D : Addr} (C : ExcC X.K D) (hz : Zc (.ref D) none oe) (hf : ∃ vs, oe.data = .fields vs) : CallR (X.suite a ((a, oe) :: pn)) (.builtin "isinstance") (rIsET X.K D a) := by
  intro pins s σ H xs us Q I r h
  obtain ⟨tp, cs, ws, b, rfl, hT, k, e, q⟩ := h
  obtain ⟨u1, u2, rfl, rx, r2⟩ := vals2 r
  cases (show u2 = Value.ref tp from r2)
  cases rx
  obtain ⟨_, its, rv, o, h1, h2, n, h3⟩ := (show ObjOk X.prog X.w H s.heap tp (.tup cs) from I.hok tp _ hT)
  have e3 := ClsV.all k rv
  subst e3
  obtain ⟨oc, od, dt, sl⟩ := o
  simp only at h2 h3
  subst h2 h3
  obtain ⟨hget, _⟩ := I.pin (a, oe) (List.mem_append.mpr (.inl List.mem_cons_self))
  obtain ⟨vs, hv⟩ := hf
  have J : PySem.W.InstAt s.heap a oe D none := by
    obtain ⟨oc, od, oda, osl⟩ := oe
    obtain ⟨h1, h2⟩ := hz
    dsimp only at h1 h2 hv
    subst h1 h2 hv
    exact ⟨hget, rfl, rfl, trivial⟩
  exact PySem.W.kia_tup (PySem.W.handS_kitx_exc C.hg C.hk C.hs C.hd C.ha C.hn C.ht C.hm) I.kIn J h1 e (fun z => nomatch z) fun tk => ⟨.bl b, H, I.tok tk, rfl, q⟩
end
end Lk
namespace Lk
open PySem PySem.Spec PyProof.Rows L2
def D.strs : List D → Option (List Str)
  | [] => some []
  | .str i :: r => (D.strs r).map (i :: ·)
  | _ :: _ => none
@[simp] theorem strs_map : ∀ (ns : List Str), D.strs (ns.map D.str) = some ns
  | [] => rfl
  | n :: ns => by simp [D.strs, strs_map ns]
theorem strs_inv : ∀ {xs : List D} {ns : List Str}, D.strs xs = some ns → xs = ns.map D.str
  | [], _, h => by cases h; rfl
  | .str i :: r, ns, h => by
    simp only [D.strs, Option.map_eq_some_iff] at h
    obtain ⟨ms, h1, rfl⟩ := h
    rw [strs_inv h1]; rfl
  | .non :: _, _, h => by simp [D.strs] at h
  | .bl _ :: _, _, h => by simp [D.strs] at h
  | .int _ :: _, _, h => by simp [D.strs] at h
  | .lst _ :: _, _, h => by simp [D.strs] at h
  | .tup _ :: _, _, h => by simp [D.strs] at h
  | .ins _ _ :: _, _, h => by simp [D.strs] at h
  | .dic _ :: _, _, h => by simp [D.strs] at h
theorem RL.strs_inv {K : PySem.W.Frag} {ca : Nat → Addr} {G : Hp} : ∀ {ns : List Str} {vs : List V}, RL K ca G vs (ns.map D.str) → vs = ns.map V.str
  | [], _, .nil => rfl
  | n :: ns, _, .cons r h => by
    cases r
    rw [RL.strs_inv h]; rfl
def joinOk (a : Str) (ys : List Str) : Bool := decide ((ys.map (·.length)).sum + ys.length * a.length ≤ 16777216)
def D.join : D → D → Res D
  | .str a, .lst ds => (match D.strs ds with | some ys => if joinOk a ys = true then .ok (.str (Txt.join a ys)) else .bug | none => .bug)
  | .str a, .tup ds => (match D.strs ds with | some ys => if joinOk a ys = true then .ok (.str (Txt.join a ys)) else .bug | none => .bug)
  | _, _ => .bug
theorem join_ok {a : Str} {ys : List Str} (h : (ys.map (·.length)).sum + ys.length * a.length ≤ 16777216) : D.join (.str a) (.lst (ys.map D.str)) = .ok (.str (Txt.join a ys)) := by
  show (match D.strs (ys.map D.str) with | some ys => if joinOk a ys = true then Res.ok (D.str (Txt.join a ys)) else Res.bug | none => Res.bug) = _
  rw [strs_map]
  exact if_pos (decide_eq_true h)
def D.txt : D → Res D
  | .str a => .ok (.str a)
  | _ => .bug
@[simp] theorem txt_str (a : Str) : D.txt (.str a) = .ok (.str a) := rfl
def rJoin (K : PySem.W.Frag) : V → List V → Hp → VK → Prop := fun x xs H Q => ∃ a p, ∃ ys : List Str, x = .str a ∧ xs = [.ref p] ∧ (SqL K H p (ys.map V.str) ∨ SqT K H p (ys.map V.str)) ∧
      (ys.map (·.length)).sum + ys.length * a.length ≤ 16777216 ∧ Q (.str (Txt.join a ys)) H
section
variable {X : Cx} {ca : Nat → Addr} {W : WX} {ρ : Env} {o e : Expr} {apos pos : Pos} {mo me : Res D}
theorem e_join (ho : PE X o (tD X.K ca W ρ mo)) (he : PE X e (tD X.K ca W ρ me)) (hs : starEach [e] X.env = [(false, eval e X.env)] := by rfl) (hbase : attributeBase o "join" X.env (eval o X.env) = eval o X.env := by rfl) (hline : (apos.endLine == pos.line) = true := by rfl) :
    PE X (.Call (.Attribute o "join" apos) [e] [] pos) (tD X.K ca W ρ (mo >>= fun x => D.txt x >>= fun x => me >>= fun y => D.join x y)) :=
  PE.of (pe_join ho he hs hbase hline) fun σ H Q ⟨Hb, G, h⟩ => ⟨Hb, G, h.cut fun x G1 H1 _ g1 h1 v rv => by
    cases x with
    | str a =>
      cases rv
      have h1 : Cr X.K ca W ρ σ Hb G1 H1 (me >>= fun y => D.join (.str a) y) _ := h1
      refine ⟨⟨a, rfl⟩, Hb, G1, h1.cut fun y G2 H2 _ g2 h2 w rw' => ?_⟩
      cases y with
      | lst ds =>
        cases q : D.strs ds with
        | none => exact (h2.nb (by simp [D.join, q])).elim
        | some ys =>
          have e := Lk.strs_inv q
          subst e
          by_cases z : joinOk a ys = true
          · have ej : D.join (.str a) (.lst (ys.map D.str)) = .ok (.str (Txt.join a ys)) := join_ok (of_decide_eq_true z)
            rw [ej] at h2
            cases rw' with
            | lst q1 q2 =>
              have e2 := q2.strs_inv
              subst e2
              exact ⟨a, _, ys, rfl, rfl, .inl (Same.sqL h2.sub q1), of_decide_eq_true z, h2.done _ (.str _)⟩
          · exact (h2.nb (by simp [D.join, z])).elim
      | tup ds =>
        cases q : D.strs ds with
        | none => exact (h2.nb (by simp [D.join, q])).elim
        | some ys =>
          have e := Lk.strs_inv q
          subst e
          by_cases z : joinOk a ys = true
          · have ej : D.join (.str a) (.tup (ys.map D.str)) = .ok (.str (Txt.join a ys)) := by
              show (match D.strs (ys.map D.str) with | some ys => if joinOk a ys = true then Res.ok (D.str (Txt.join a ys)) else Res.bug | none => Res.bug) = _
              rw [strs_map]
              exact if_pos z
            rw [ej] at h2
            cases rw' with
            | tup q1 q2 =>
              have e2 := q2.strs_inv
              subst e2
              exact ⟨a, _, ys, rfl, rfl, .inr (Same.sqT h2.sub q1), of_decide_eq_true z, h2.done _ (.str _)⟩
          · exact (h2.nb (by simp [D.join, z])).elim
      | _ => exact (h2.nb rfl).elim
    | _ => exact (h1.nb rfl).elim⟩
end
def D.toStrA : List D → Res D := one fun
  | .int i => if i.natAbs.log2 < 1920 then .ok (.str (toString i)) else .bug
  | .str z => .ok (.str z)
  | _ => .bug
@[simp] theorem toStrA_str (z : Str) : D.toStrA [.str z] = .ok (.str z) := rfl
theorem toStrA_int {i : Int} (h : i.natAbs.log2 < 1920) : D.toStrA [.int i] = .ok (.str (toString i)) := if_pos h
theorem call_strA {X : Cx} : CallR X (.type "str") (fun xs H Q => (∃ i, xs = [.int i] ∧ i.natAbs.log2 < 1920 ∧ Q (.str (toString i)) H) ∨ ∃ a, xs = [.str a] ∧ Q (.str a) H) := call_str_int.or SkE.call_str_str
theorem l_toStrA {K : PySem.W.Frag} {ca : Nat → Addr} : LiftA K ca (fun xs H Q => (∃ i, xs = [.int i] ∧ i.natAbs.log2 < 1920 ∧ Q (.str (toString i)) H) ∨ ∃ a, xs = [.str a] ∧ Q (.str a) H) D.toStrA := by
  intro Hb G H vs xs Q sb s r nb h
  obtain ⟨x, v, rfl, rfl, r1⟩ := RL.one nb r
  cases x <;> try exact (nb rfl).elim
  · rename_i i
    cases r1
    by_cases hz : i.natAbs.log2 < 1920
    · exact .inl ⟨_, rfl, hz, h _ _ _ (toStrA_int hz) (.refl s) _ (.str _)⟩
    · exact (nb (if_neg hz)).elim
  · cases r1
    exact .inr ⟨_, rfl, h _ _ _ rfl (.refl s) _ (.str _)⟩
end Lk
namespace Lk
open PySem PySem.Spec PyProof.Rows L2
def D.rep (xs : List D) : D → Res (List D)
  | .int k => if (-(2 ^ 62) ≤ k ∧ k < 2 ^ 62) ∧ xs.length * k.toNat ≤ 100000 then .ok (List.replicate k.toNat xs).flatten else .bug
  | _ => .bug
theorem RL.rep {K : PySem.W.Frag} {ca : Nat → Addr} {G : Hp} {ds : List D} {vs : List V} (h : RL K ca G vs ds) : ∀ n : Nat, RL K ca G (List.replicate n vs).flatten (List.replicate n ds).flatten
  | 0 => .nil
  | n + 1 => by
    rw [List.replicate_succ, List.replicate_succ, List.flatten_cons, List.flatten_cons]
    exact h.append (RL.rep h n)
section
variable {X : Cx} {ca : Nat → Addr} {W : WX} {ρ : Env} {a : Expr} {pos p : Pos} {ma : Res (List D)} {i : Nat} {n : Str} {x : D}
theorem e_repV (ha : PE X a (tL X.K ca W ρ ma)) (hN : X.N[i]? = some n) (hv : Vis X.env.scope n) (h : ρ[i]? = some (some (.d x))) (hd : (n == ("__debug__" : Str)) = false) (hcd : (n == ("__classdict__" : Str)) = false) :
    PE X (.BinOp a .Mult (.Name n p) pos) (tL X.K ca W ρ (ma >>= fun xs => D.rep xs x)) :=
  PE.of (pe_op op_rep ha (pe_var hN hv hd hcd)) fun σ H Q ⟨Hb, G, h0⟩ => ⟨Hb, G, h0.cut fun xs G1 H1 _ g1 h1 q vs hq gq hh rl => by
    obtain ⟨f, E, hf⟩ := h0.env
    obtain ⟨v, e1, e2⟩ := E.slot i _ h
    cases e2 with
    | d e2 =>
      refine ⟨v, e1, ?_⟩
      cases x with
      | int k =>
        cases e2
        by_cases z : (-(2 ^ 62) ≤ k ∧ k < 2 ^ 62) ∧ xs.length * k.toNat ≤ 100000
        · have er : D.rep xs (.int k) = .ok (List.replicate k.toNat xs).flatten := if_pos z
          refine ⟨q, k, vs, rfl, rfl, hh, by omega, by omega, Nat.le_trans (by rw [rl.length]; exact z.2) (by decide), fun p2 hp2 => ?_⟩
          exact h1.ok _ er _ _ (Gb.own h1.sub hp2) p2 _ (h1.sb.free hp2) (h1.sub.free hp2) upd_same (rl.rep k.toNat)
        · exact (h1.nb (if_neg z)).elim
      | _ => exact (h1.nb rfl).elim⟩
end
def insR (xs : List D) (i : D) (d : D) : Res (List D) := match i with
  | .int j => if (0 ≤ j ∧ j < 2 ^ 62) ∧ xs.length < 100000 then .ok (xs.take j.toNat ++ [d] ++ xs.drop j.toNat) else .bug
  | _ => .bug
section
variable {X : Cx} {ca : Nat → Addr} {S B T : Type} {W : WX} {ρ : Env} {ρx : EX} {emb : S → Env} {embB : B → Env} {out : T → RtP} {i : Nat} {n : Str} {e1 e2 : Expr} {rest : List Stmt} {m1 m2 : Res D}
theorem s_insert {apos cpos epos p0 : Pos} {r : Option V} {xs : List D} {k : List D → Res (Out S B T)} (hN : X.N[i]? = some n) (hv : Vis X.env.scope n) (hd : (n == ("__debug__" : Str)) = false) (hcd : (n == ("__classdict__" : Str)) = false)
    (ho : ρ[i]? = some (some (.ol r xs))) (he1 : PE X e1 (tD X.K ca W ρ m1)) (he2 : PE X e2 (tD X.K ca W ρ m2)) (le : Env.le ρx.e ρ) (h : ∀ ys, PSs X rest (tS X.K ca W ρx emb embB out (ρ.set i (some (.ol r ys))) (k ys)))
    (hbase : attributeBase (.Name n p0) "insert" X.env (eval (.Name n p0) X.env) = eval (.Name n p0) X.env := by rfl)
    (hfew : ((backTo cpos (starEach [e1, e2] X.env)).all (fun x => !x.1) && (backToKw cpos (keywordEach [] X.env)).all (fun x => x.1.isSome)
      && decide ([e1, e2].length + ([] : List Keyword).length + (if ([] : List Keyword).isEmpty then 0 else 1) < 30)) = true := by rfl)
    (hline : (apos.endLine == cpos.line) = true := by rfl) (hs : starEach [e1, e2] X.env = (false, eval e1 X.env) :: starEach [e2] X.env := by rfl) (hs2 : starEach [e2] X.env = (false, eval e2 X.env) :: starEach [] X.env := by rfl) (hplain : (backTo cpos (starEach [e2] X.env)).any (·.1) = false := by rfl)
    (hsw : swapsWith (.Call (.Attribute (.Name n p0) "insert" apos) [e1, e2] [] cpos) none epos.line X.env = pure false := by rfl) :
    PSs X (.Expr (.Call (.Attribute (.Name n p0) "insert" apos) [e1, e2] [] cpos) epos :: rest) (tS X.K ca W ρx emb embB out ρ (m1 >>= fun j => m2 >>= fun d => insR xs j d >>= k)) :=
  PSs.of (pss_cons (ps_expr (pe_bm PySem.F.plainAttrs_list PySem.F.slot_list_insert PySem.F.type_list_insert mt_insert (pe_var hN hv hd hcd) (pa_cons he1 (pa_cons he2 pa_nil hs2) hs) hbase hfew hline hs hplain) hsw) (PSs.any h)) fun D σ H ⟨G, f, E, hq⟩ => by
    obtain ⟨p, vs, hσ, hp, rl, fp, pn⟩ := E.own ho
    refine ⟨.ref p, hσ, .inl ⟨rfl, _, SqL.of hp⟩, H, G, hq.expr E le fun j G1 H1 ea g E1 h1 w rw' => ⟨H1, G1, h1.expr E1 le fun d G2 H2 ea2 g2 E2 h2 w2 rw2 => ?_⟩⟩
    have rl1 := (rl.mono g.g).mono g2.g
    have hp2 := g2.h _ _ (g.h _ _ hp)
    cases j with
    | int j =>
      by_cases hz : (0 ≤ j ∧ j < 2 ^ 62) ∧ xs.length < 100000
      · have ei : insR xs (.int j) d = .ok (xs.take j.toNat ++ [d] ++ xs.drop j.toNat) := if_pos hz
        rw [ei] at h2
        have rw3 := rw'
        cases rw3
        refine ⟨p, vs, j, w2, rfl, rfl, hp2, Nat.lt_of_lt_of_le (by rw [rl1.length]; exact hz.2) (by decide), hz.1.1, by omega, xs.take j.toNat ++ [d] ++ xs.drop j.toNat, ?_⟩
        obtain ⟨E3, v3⟩ := E2.change (vs := vs.take j.toNat ++ [w2] ++ vs.drop j.toNat) (xs := xs.take j.toNat ++ [d] ++ xs.drop j.toNat) fp rfl (((rl1.take _).append (.cons rw2 .nil)).append (rl1.drop _)) hσ rfl pn
        exact ⟨G2, f, E3, h2.on v3⟩
      · exact (h2.nb (by
          have : insR xs (.int j) d = .bug := if_neg hz
          rw [this]; rfl)).elim
    | _ => exact (h2.nb rfl).elim
end
end Lk
namespace Lk
open PySem PySem.Spec PyProof.Rows L2
section
variable {X : Cx} {ca : Nat → Addr} {S B T : Type} {W : WX} {ρ : Env} {ρx : EX} {emb : S → Env} {embB : B → Env} {out : T → RtP} {i : Nat} {n : Str} {e : Expr} {rest : List Stmt} {m : Res (List D)}
theorem s_reverse {apos cpos epos p0 : Pos} {r : Option V} {xs : List D} {M : Res (Out S B T)} (hN : X.N[i]? = some n) (hv : Vis X.env.scope n) (hd : (n == ("__debug__" : Str)) = false) (hcd : (n == ("__classdict__" : Str)) = false)
    (ho : ρ[i]? = some (some (.ol r xs))) (h : PSs X rest (tS X.K ca W ρx emb embB out (ρ.set i (some (.ol r xs.reverse))) M))
    (hbase : attributeBase (.Name n p0) "reverse" X.env (eval (.Name n p0) X.env) = eval (.Name n p0) X.env := by rfl) (hline : (apos.endLine == cpos.line) = true := by rfl)
    (hsw : swapsWith (.Call (.Attribute (.Name n p0) "reverse" apos) [] [] cpos) none epos.line X.env = pure false := by rfl) :
    PSs X (.Expr (.Call (.Attribute (.Name n p0) "reverse" apos) [] [] cpos) epos :: rest) (tS X.K ca W ρx emb embB out ρ M) :=
  PSs.of (pss_cons (ps_expr (pe_bm0 PySem.F.plainAttrs_list PySem.F.slot_list_reverse PySem.F.type_list_reverse mt_reverse (pe_var hN hv hd hcd) hbase hline) hsw) h) fun D σ H ⟨G, f, E, hq⟩ => by
    obtain ⟨p, vs, hσ, hp, rl, fp, pn⟩ := E.own ho
    obtain ⟨E2, v2⟩ := E.change (vs := vs.reverse) (xs := xs.reverse) fp rfl rl.reverse hσ rfl pn
    exact ⟨.ref p, hσ, .inl ⟨rfl, _, SqL.of hp⟩, p, vs, rfl, rfl, hp, G, f, E2, hq.on v2⟩
theorem s_clear {apos cpos epos p0 : Pos} {r : Option V} {xs : List D} {M : Res (Out S B T)} (hN : X.N[i]? = some n) (hv : Vis X.env.scope n) (hd : (n == ("__debug__" : Str)) = false) (hcd : (n == ("__classdict__" : Str)) = false)
    (ho : ρ[i]? = some (some (.ol r xs))) (h : PSs X rest (tS X.K ca W ρx emb embB out (ρ.set i (some (.ol r []))) M))
    (hbase : attributeBase (.Name n p0) "clear" X.env (eval (.Name n p0) X.env) = eval (.Name n p0) X.env := by rfl) (hline : (apos.endLine == cpos.line) = true := by rfl)
    (hsw : swapsWith (.Call (.Attribute (.Name n p0) "clear" apos) [] [] cpos) none epos.line X.env = pure false := by rfl) :
    PSs X (.Expr (.Call (.Attribute (.Name n p0) "clear" apos) [] [] cpos) epos :: rest) (tS X.K ca W ρx emb embB out ρ M) :=
  PSs.of (pss_cons (ps_expr (pe_bm0 PySem.F.plainAttrs_list PySem.F.slot_list_clear PySem.F.type_list_clear mt_clear (pe_var hN hv hd hcd) hbase hline) hsw) h) fun D σ H ⟨G, f, E, hq⟩ => by
    obtain ⟨p, vs, hσ, hp, rl, fp, pn⟩ := E.own ho
    obtain ⟨E2, v2⟩ := E.change (vs := []) (xs := []) fp rfl .nil hσ rfl pn
    exact ⟨.ref p, hσ, .inl ⟨rfl, _, SqL.of hp⟩, p, vs, rfl, rfl, hp, G, f, E2, hq.on v2⟩
def extR (xs ys : List D) : Res (List D) := if xs.length + ys.length < 100000 then .ok (xs ++ ys) else .bug
theorem extR_ok {xs ys : List D} (h : xs.length + ys.length < 100000) : extR xs ys = .ok (xs ++ ys) := if_pos h
theorem s_extend {apos cpos epos p0 : Pos} {r : Option V} {xs : List D} {k : List D → Res (Out S B T)} (hN : X.N[i]? = some n) (hv : Vis X.env.scope n) (hd : (n == ("__debug__" : Str)) = false) (hcd : (n == ("__classdict__" : Str)) = false)
    (ho : ρ[i]? = some (some (.ol r xs))) (he : PE X e (tL X.K ca W ρ m)) (le : Env.le ρx.e ρ) (h : ∀ ys, PSs X rest (tS X.K ca W ρx emb embB out (ρ.set i (some (.ol r ys))) (k ys)))
    (hbase : attributeBase (.Name n p0) "extend" X.env (eval (.Name n p0) X.env) = eval (.Name n p0) X.env := by rfl)
    (hfew : ((backTo cpos (starEach [e] X.env)).all (fun x => !x.1) && (backToKw cpos (keywordEach [] X.env)).all (fun x => x.1.isSome)
      && decide ([e].length + ([] : List Keyword).length + (if ([] : List Keyword).isEmpty then 0 else 1) < 30)) = true := by rfl)
    (hline : (apos.endLine == cpos.line) = true := by rfl) (hs : starEach [e] X.env = (false, eval e X.env) :: starEach [] X.env := by rfl) (hplain : (backTo cpos (starEach [] X.env)).any (·.1) = false := by rfl)
    (hsw : swapsWith (.Call (.Attribute (.Name n p0) "extend" apos) [e] [] cpos) none epos.line X.env = pure false := by rfl) :
    PSs X (.Expr (.Call (.Attribute (.Name n p0) "extend" apos) [e] [] cpos) epos :: rest) (tS X.K ca W ρx emb embB out ρ (m >>= fun d => extR xs d >>= k)) :=
  PSs.of (pss_cons (ps_expr (pe_bm PySem.F.plainAttrs_list PySem.F.slot_list_extend PySem.F.type_list_extend mt_extend (pe_var hN hv hd hcd) (pa_cons he pa_nil hs) hbase hfew hline hs hplain) hsw) (PSs.any h)) fun D σ H ⟨G, f, E, hq⟩ => by
    obtain ⟨p, vs, hσ, hp, rl, fp, pn⟩ := E.own ho
    refine ⟨.ref p, hσ, .inl ⟨rfl, _, SqL.of hp⟩, H, G, hq.expr E le fun d G1 H1 ea g E1 h1 p2 us hp2 gp2 hh rl2 => ?_⟩
    have rl1 := rl.mono g.g
    by_cases hz : xs.length + d.length < 100000
    · rw [extR_ok hz] at h1
      refine ⟨p, p2, vs, us, rfl, rfl, g.h _ _ hp, hh, Nat.le_trans (by rw [rl.length, rl2.length]; exact Nat.le_of_lt hz) (by decide), xs ++ d, ?_⟩
      obtain ⟨E2, v2⟩ := E1.change (vs := vs ++ us) (xs := xs ++ d) fp rfl (rl1.append rl2) hσ rfl pn
      exact ⟨G1, f, E2, h1.on v2⟩
    · exact (h1.nb (by unfold extR; rw [if_neg hz]; rfl)).elim
end
/-! ### an owned tree, lent -/
open Classical in
noncomputable def hideS (F : AS) (G : Hp) : Hp := fun a => if F a then none else G a
theorem hideS_in {F : AS} {G : Hp} {a : Addr} (h : F a) : hideS F G a = none := if_pos h
theorem hideS_out {F : AS} {G : Hp} {a : Addr} (h : ¬ F a) : hideS F G a = G a := if_neg h
theorem R.flatG {K : PySem.W.Frag} {ca : Nat → Addr} {G G2 : Hp} {d : D} {v : V} (h : D.flat d = true) (r : R K ca G v d) : R K ca G2 v d := by
  cases r <;> first | exact .non | exact .bl _ | exact .int _ | exact .str _ | (simp [D.flat] at h)
def D.flt (d : D) : Res D := if D.flat d = true then .ok d else .bug
@[simp] theorem flt_int (i : Int) : D.flt (.int i) = .ok (.int i) := rfl
@[simp] theorem flt_bl (i : Bool) : D.flt (.bl i) = .ok (.bl i) := rfl
@[simp] theorem flt_str (i : Str) : D.flt (.str i) = .ok (.str i) := rfl
@[simp] theorem flt_non : D.flt .non = .ok .non := rfl
section
variable {X : Cx} {ca : Nat → Addr} {W : WX} {ρ : Env} {e : Expr} {i : Nat} {o : O} {α : Type}
theorem lendO {K : PySem.W.Frag} {σ : L2.St} {Hb G H : Hp} {m : Res α} {P P2 : α → Hp → Hp → Prop} (ho : ρ[i]? = some (some o)) (h : Cr K ca W ρ σ Hb G H m P)
    (hk : ∀ F a G' H', m = .ok a → P a (hideS F G') H' → P2 a G' H') : ∃ G2, Cr K ca W (ρ.set i (some (.d o.frz))) σ Hb G2 H m P2 := by
  obtain ⟨f, E, hf⟩ := h.env
  obtain ⟨v, hσ, ow⟩ := E.slot i o ho
  have kF : ∀ a, f i a → G a = none := fun a z => (E.out i a z).1
  have s1 : Same G (pubG (f i) G H) := pubG_same kF
  have s2 : Same (pubG (f i) G H) H := fun a u z => by
    by_cases q : f i a
    · rw [pubG_in q] at z; exact z
    · rw [pubG_out q] at z; exact E.sub a u z
  have E2 : EnvOk K ca (pubG (f i) G H) H σ (ρ.set i (some (.d o.frz))) (fun j => if j = i then none_ else f j) := by
    refine ⟨s2, fun j u hj => ?_, fun j k a h1 h2 => ?_, fun j a h1 => ?_⟩
    · by_cases e : j = i
      · subst e
        have hl : j < (ρ.set j (some (.d o.frz))).length := (List.getElem?_eq_some_iff.mp hj).1
        rw [List.length_set] at hl
        rw [List.getElem?_set_self hl] at hj
        cases hj
        exact ⟨_, hσ, .d (ow.frz kF)⟩
      · rw [List.getElem?_set_ne (Ne.symm e)] at hj
        obtain ⟨w, z1, z2⟩ := E.slot j u hj
        exact ⟨w, z1, by simpa [e] using z2.mono s1 fun a u _ z => z⟩
    · by_cases e1 : j = i
      · simp only [e1, if_true] at h1
        exact h1.elim
      · by_cases e2 : k = i
        · simp only [e2, if_true] at h2
          exact h2.elim
        · simp only [e1, e2, if_false] at h1 h2
          exact E.sep j k a h1 h2
    · by_cases e1 : j = i
      · simp only [e1, if_true] at h1
        exact h1.elim
      · simp only [e1, if_false] at h1
        obtain ⟨z1, z2⟩ := E.out j a h1
        exact ⟨by rw [pubG_out (fun z => e1 (E.sep j i a h1 z))]; exact z1, z2⟩
  have back : ∀ {G' H' : Hp}, Gb Hb (pubG (f i) G H) H G' H' → Gb Hb G H (hideS (f i) G') H' := fun {G' H'} g => by
    refine ⟨fun a u z => ?_, fun a u z => ?_, g.h, fun a u z => ?_⟩
    · rw [hideS_out (fun q => by rw [kF a q] at z; cases z)]
      exact g.g a u (s1 a u z)
    · by_cases q : f i a
      · rw [hideS_in q] at z; cases z
      · rw [hideS_out q] at z; exact g.sub a u z
    · by_cases q : f i a
      · rw [hideS_in q] at z; cases z
      · rw [hideS_out q] at z
        rcases g.new a u z with y | y
        · rw [pubG_out q] at y
          exact .inl y
        · exact .inr y
  refine ⟨pubG (f i) G H, h.sb, ⟨_, E2, fun j a z => ?_⟩, h.nb, fun a e G' H' g => hk (f i) a G' H' e (h.ok a e _ H' (back g)), fun c e G' H' g => h.ex c e _ H' (back g)⟩
  by_cases e1 : j = i
  · simp only [e1, if_true] at z
    exact z.elim
  · simp only [e1, if_false] at z
    exact hf j a z
/-- an expression that reads an owned tree, its own value flat -/
theorem e_lendO {m : Res D} (ho : ρ[i]? = some (some o)) (h : PE X e (tD X.K ca W (ρ.set i (some (.d o.frz))) m)) : PE X e (tD X.K ca W ρ (m >>= fun d => D.flt d)) :=
  PE.of h fun σ H Q ⟨Hb, G, hq⟩ => by
    obtain ⟨G2, h2⟩ := lendO ho (hq.cut (P := fun d G' H' => D.flat d = true ∧ ∀ v, R X.K ca G' v d → Q v H') fun d G1 H1 e g h1 => by
      by_cases hl : D.flat d = true
      · have ef : D.flt d = .ok d := if_pos hl
        rw [ef] at h1
        exact ⟨hl, h1.done⟩
      · exact (h1.nb (if_neg hl)).elim) (P2 := fun d G' H' => ∀ v, R X.K ca G' v d → Q v H') (fun F d G' H' _ q v rv => q.2 v (rv.flatG q.1))
    exact ⟨Hb, G2, h2⟩
theorem t_lendO {m : Res Bool} (ho : ρ[i]? = some (some o)) (h : PT X e (tB X.K ca W (ρ.set i (some (.d o.frz))) m)) : PT X e (tB X.K ca W ρ m) :=
  PT.of h fun σ H Q ⟨Hb, G, hq⟩ => by
    obtain ⟨G2, h2⟩ := lendO ho hq (P2 := fun b _ H' => Q b H') (fun F d G' H' _ q => q)
    exact ⟨Hb, G2, h2⟩
end
end Lk
namespace Lk
open PySem PySem.Spec PyProof.Rows L2
theorem RL.strs {K : PySem.W.Frag} {ca : Nat → Addr} {G : Hp} : ∀ {ns : List Str}, RL K ca G (ns.map V.str) (ns.map D.str)
  | [] => .nil
  | n :: ns => .cons (.str n) RL.strs
def D.split : D → D → Res (List D)
  | .str a, .str b => if (b.length == 0) = false ∧ a.length + 2 ≤ 100000 then .ok ((Txt.split a b).map D.str) else .bug
  | _, _ => .bug
theorem split_ok {a b : Str} (h : (b.length == 0) = false) (h2 : a.length + 2 ≤ 100000) : D.split (.str a) (.str b) = .ok ((Txt.split a b).map D.str) := if_pos ⟨h, h2⟩
def D.txtS : D → Res D
  | .str a => if a.length ≤ 30000 then .ok (.str a) else .bug
  | _ => .bug
theorem txtS_ok {a : Str} (h : a.length ≤ 30000) : D.txtS (.str a) = .ok (.str a) := if_pos h
theorem txtS_no {a : Str} (h : ¬ a.length ≤ 30000) : D.txtS (.str a) = .bug := if_neg h
def D.cat3 : D → D → D → Res D
  | .str a, .str b, .str c => .ok (.str (Str.empty ++ a ++ b ++ c))
  | _, _, _ => .bug
def D.fmt : D → Res D
  | .str a => if a.length ≤ 30000 then .ok (.str a) else .bug
  | .int i => if i.natAbs.log2 < 1920 then .ok (.str (toString i)) else .bug
  | _ => .bug
section
variable {X : Cx} {ca : Nat → Addr} {W : WX} {ρ : Env} {o e e1 e2 e3 : Expr} {apos pos : Pos} {mo me m1 m2 m3 : Res D}
theorem e_split (ho : PE X o (tD X.K ca W ρ mo)) (he : PE X e (tD X.K ca W ρ me)) (hs : starEach [e] X.env = [(false, eval e X.env)] := by rfl) (hbase : attributeBase o "split" X.env (eval o X.env) = eval o X.env := by rfl) (hline : (apos.endLine == pos.line) = true := by rfl) :
    PE X (.Call (.Attribute o "split" apos) [e] [] pos) (tL X.K ca W ρ (mo >>= fun x => D.txt x >>= fun x => me >>= fun y => D.split x y)) :=
  PE.of (pe_split ho he hs hbase hline) fun σ H Q ⟨Hb, G, h⟩ => ⟨Hb, G, h.cut fun x G1 H1 _ g1 h1 v rv => by
    cases x with
    | str a =>
      cases rv
      refine ⟨⟨a, rfl⟩, Hb, G1, Cr.cut (k := fun y => D.split (.str a) y) h1 fun y G2 H2 _ g2 h2 w rw' => ?_⟩
      cases y with
      | str b =>
        cases rw'
        by_cases z : (b.length == 0) = false ∧ a.length + 2 ≤ 100000
        · rw [split_ok z.1 z.2] at h2
          refine ⟨a, b, rfl, rfl, z.1, Nat.le_trans z.2 (by decide), fun p hp => ?_⟩
          exact h2.ok _ rfl _ _ (Gb.own h2.sub hp) p _ (h2.sb.free hp) (h2.sub.free hp) upd_same RL.strs
        · exact (h2.nb (if_neg z)).elim
      | _ => exact (h2.nb rfl).elim
    | _ => exact (h1.nb rfl).elim⟩
theorem e_fmt (he : PE X e (tD X.K ca W ρ me)) : PE X (.FormattedValue e (-1) none pos) (tD X.K ca W ρ (me >>= fun x => D.fmt x)) :=
  PE.of (pe_fmt he) fun σ H Q ⟨Hb, G, h⟩ => ⟨Hb, G, h.cut fun x G1 H1 _ g1 h1 v rv => by
    cases x with
    | str a =>
      cases rv
      by_cases z : a.length ≤ 30000
      · have ef : D.fmt (.str a) = .ok (.str a) := if_pos z
        rw [ef] at h1
        exact .inl ⟨a, rfl, Nat.le_trans z (by decide), h1.done _ (.str _)⟩
      · exact (h1.nb (if_neg z)).elim
    | int i =>
      cases rv
      by_cases z : i.natAbs.log2 < 1920
      · have ef : D.fmt (.int i) = .ok (.str (toString i)) := if_pos z
        rw [ef] at h1
        exact .inr ⟨i, rfl, z, h1.done _ (.str _)⟩
      · exact (h1.nb (if_neg z)).elim
    | _ => exact (h1.nb rfl).elim⟩
theorem e_join3 (h1 : PE X e1 (tD X.K ca W ρ m1)) (h2 : PE X e2 (tD X.K ca W ρ m2)) (h3 : PE X e3 (tD X.K ca W ρ m3)) :
    PE X (.JoinedStr [e1, e2, e3] pos) (tD X.K ca W ρ (m1 >>= fun x => D.txtS x >>= fun x => m2 >>= fun y => D.txtS y >>= fun y => m3 >>= fun z => D.txtS z >>= fun z => D.cat3 x y z)) :=
  PE.of (pe_joined (.cons h1 (.cons h2 (.cons h3 .nil)))) fun σ H Q ⟨Hb, G, h⟩ => ⟨Hb, G, h.cut fun x G1 H1 _ g1 k1 v rv => by
    cases x with
    | str a =>
      cases rv
      by_cases za : a.length ≤ 30000
      · rw [txtS_ok za, bind_ok] at k1
        have la : (Str.empty ++ a).length = a.length := by
          show (#[] ++ a.cps).size = a.cps.size
          simp
        refine ⟨a, rfl, Nat.le_trans (by rw [la]; exact za) (by decide), Hb, G1, k1.cut fun y G2 H2 _ g2 k2 w rw' => ?_⟩
        cases y with
        | str b =>
          cases rw'
          by_cases zb : b.length ≤ 30000
          · rw [txtS_ok zb, bind_ok] at k2
            have lb : (Str.empty ++ a ++ b).length = a.length + b.length := by
              show ((#[] ++ a.cps) ++ b.cps).size = a.cps.size + b.cps.size
              simp
            refine ⟨b, rfl, Nat.le_trans (by rw [lb]; omega : (Str.empty ++ a ++ b).length ≤ 60000) (by decide), Hb, G2, k2.cut fun z G3 H3 _ g3 k3 u ru => ?_⟩
            cases z with
            | str c =>
              cases ru
              by_cases zc : c.length ≤ 30000
              · rw [txtS_ok zc, bind_ok] at k3
                have lc : (Str.empty ++ a ++ b ++ c).length = a.length + b.length + c.length := by
                  show (((#[] ++ a.cps) ++ b.cps) ++ c.cps).size = a.cps.size + b.cps.size + c.cps.size
                  rw [Array.size_append, Array.size_append, Array.size_append]
                  simp
                have e3 : D.cat3 (.str a) (.str b) (.str c) = .ok (.str (Str.empty ++ a ++ b ++ c)) := rfl
                rw [e3] at k3
                exact ⟨c, rfl, Nat.le_trans (by rw [lc]; omega : (Str.empty ++ a ++ b ++ c).length ≤ 90000) (by decide), k3.done _ (.str _)⟩
              · exact (k3.nb (by show (D.txtS (.str c) >>= _) = _; rw [txtS_no zc]; rfl)).elim
            | _ => exact (k3.nb rfl).elim
          · exact (k2.nb (by show (D.txtS (.str b) >>= _) = _; rw [txtS_no zb]; rfl)).elim
        | _ => exact (k2.nb rfl).elim
      · exact (k1.nb (by show (D.txtS (.str a) >>= _) = _; rw [txtS_no za]; rfl)).elim
    | _ => exact (k1.nb rfl).elim⟩
def D.cat2 : D → D → Res D
  | .str a, .str b => .ok (.str (Str.empty ++ a ++ b))
  | _, _ => .bug
theorem e_join2 (h1 : PE X e1 (tD X.K ca W ρ m1)) (h2 : PE X e2 (tD X.K ca W ρ m2)) :
    PE X (.JoinedStr [e1, e2] pos) (tD X.K ca W ρ (m1 >>= fun x => D.txtS x >>= fun x => m2 >>= fun y => D.txtS y >>= fun y => D.cat2 x y)) :=
  PE.of (pe_joined (.cons h1 (.cons h2 .nil))) fun σ H Q ⟨Hb, G, h⟩ => ⟨Hb, G, h.cut fun x G1 H1 _ g1 k1 v rv => by
    cases x with
    | str a =>
      cases rv
      by_cases za : a.length ≤ 30000
      · rw [txtS_ok za, bind_ok] at k1
        have la : (Str.empty ++ a).length = a.length := by
          show (#[] ++ a.cps).size = a.cps.size
          simp
        refine ⟨a, rfl, Nat.le_trans (by rw [la]; exact za) (by decide), Hb, G1, k1.cut fun y G2 H2 _ g2 k2 w rw' => ?_⟩
        cases y with
        | str b =>
          cases rw'
          by_cases zb : b.length ≤ 30000
          · rw [txtS_ok zb, bind_ok] at k2
            have lb : (Str.empty ++ a ++ b).length = a.length + b.length := by
              show ((#[] ++ a.cps) ++ b.cps).size = a.cps.size + b.cps.size
              simp
            have e2 : D.cat2 (.str a) (.str b) = .ok (.str (Str.empty ++ a ++ b)) := rfl
            rw [e2] at k2
            exact ⟨b, rfl, Nat.le_trans (by rw [lb]; omega : (Str.empty ++ a ++ b).length ≤ 60000) (by decide), k2.done _ (.str _)⟩
          · exact (k2.nb (by show (D.txtS (.str b) >>= _) = _; rw [txtS_no zb]; rfl)).elim
        | _ => exact (k2.nb rfl).elim
      · exact (k1.nb (by show (D.txtS (.str a) >>= _) = _; rw [txtS_no za]; rfl)).elim
    | _ => exact (k1.nb rfl).elim⟩
def D.find : D → D → Res D
  | .str a, .str b => .ok (.int (Txt.find a b))
  | _, _ => .bug
theorem e_find (ho : PE X o (tD X.K ca W ρ mo)) (he : PE X e (tD X.K ca W ρ me)) (hs : starEach [e] X.env = [(false, eval e X.env)] := by rfl) (hbase : attributeBase o "find" X.env (eval o X.env) = eval o X.env := by rfl) (hline : (apos.endLine == pos.line) = true := by rfl) :
    PE X (.Call (.Attribute o "find" apos) [e] [] pos) (tD X.K ca W ρ (mo >>= fun x => D.txt x >>= fun x => me >>= fun y => D.find x y)) :=
  PE.of (pe_m1 PySem.F.slot_str_find PySem.F.type_str_find mt_find ho he hs hbase hline) fun σ H Q ⟨Hb, G, h⟩ => ⟨Hb, G, h.cut fun x G1 H1 _ g1 h1 v rv => by
    cases x with
    | str a =>
      cases rv
      refine ⟨⟨a, rfl⟩, Hb, G1, Cr.cut (k := fun y => D.find (.str a) y) h1 fun y G2 H2 _ g2 h2 w rw' => ?_⟩
      cases y with
      | str b =>
        cases rw'
        have e : D.find (.str a) (.str b) = .ok (.int (Txt.find a b)) := rfl
        rw [e] at h2
        exact ⟨a, b, rfl, rfl, h2.done _ (.int _)⟩
      | _ => exact (h2.nb rfl).elim
    | _ => exact (h1.nb rfl).elim⟩
end
end Lk
namespace Lk
open PySem PySem.Spec PyProof.Rows L2
def obsX (fa : List He.Fa) (fn : List He.DefD) (ex : PySem.W.Frag → Bool) (K : PySem.W.Frag) : He.AlD := (((fa.all fun f => f.ok K) && fn.all fun d => d.ok K) && ex K, fn.map fun d => He.fnW K d.at_)
def SaysX (fa : List He.Fa) (fn : List He.DefD) (ex : PySem.W.Frag → Bool) (K : PySem.W.Frag) : Prop := obsX fa fn ex K = He.valD fn
def obsXG (n : Nat) (fa : List He.Fa) (fn : List He.DefD) (ex : PySem.W.Frag → Bool) (g : Addr → Option Obj) : He.AlD := obsX fa fn ex (He.frG g (He.asD g n ++ [cStatics]))
def hookX (n : Nat) (fa : List He.Fa) (fn : List He.DefD) (ex : PySem.W.Frag → Bool) : PySem.W.Hook where
  α := He.AlD
  obs := fun s => obsXG n fa fn ex s.heap.get?
  val := fun _ => He.valD fn
  says := fun _ h => ∃ K : PySem.W.Frag, K.In h ∧ SaysX fa fn ex K
  of := fun _ _ e => ⟨_, He.frG_in, e⟩
  keeps := fun _ _ _ ⟨K, hK, c⟩ k => ⟨K, PySem.W.Frag.In.keeps hK k, c⟩
theorem obsXG_eq {n : Nat} {fa : List He.Fa} {fn : List He.DefD} {ex : PySem.W.Frag → Bool} {g : Addr → Option Obj} {s : Shared} (h : ∀ a, g a = s.heap.get? a) : obsXG n fa fn ex g = (hookX n fa fn ex).obs s := by
  have e : g = s.heap.get? := funext h
  rw [e]
  rfl
theorem SaysX.said {fa : List He.Fa} {fn : List He.DefD} {ex : PySem.W.Frag → Bool} {K : PySem.W.Frag} (c : SaysX fa fn ex K) : He.SaysD fa fn K ∧ ex K = true := by
  have c1 : (((fa.all fun f => f.ok K) && fn.all fun d => d.ok K) && ex K) = true := congrArg Prod.fst c
  have c2 : (fn.map fun d => He.fnW K d.at_) = (He.valD fn).2 := congrArg Prod.snd c
  rw [Bool.and_eq_true] at c1
  refine ⟨?_, c1.2⟩
  show ((fa.all fun f => f.ok K) && fn.all fun d => d.ok K, fn.map fun d => He.fnW K d.at_) = (true, (He.valD fn).2)
  rw [c1.1, c2]
/-- what the own refusal class at D says, for isinstance of its instances -/
def excB (K : PySem.W.Frag) (D : Addr) : Bool :=
  He.eqO (PySem.W.findIn K (.ref D) "__getattribute__") (some (some (.builtin "BaseException.__getattribute__"))) && He.eqO (PySem.W.findIn K (.ref D) "__getattr__") (some none) && decide (PySem.W.subIn K (.ref D) (.type "BaseException") = some true) && PySem.W.hasDictIn K D
    && He.eqO (PySem.W.findIn K (.ref D) "__class__") (some (some (.builtin "object.__class__"))) && He.eqO (PySem.W.specialIn K (.builtin "object.__class__") "__get__") (some (some (.builtin "getset_descriptor.__get__"))) && decide (PySem.W.takesIn K (.builtin "object.__class__") = some true) && decide (PySem.W.mroIn K D (.type "object") = some true)
theorem excB_ok {K : PySem.W.Frag} {D : Addr} (h : excB K D = true) : ExcC K D := by
  simp only [excB, Bool.and_eq_true] at h
  obtain ⟨⟨⟨⟨⟨⟨⟨h1, h2⟩, h3⟩, h4⟩, h5⟩, h6⟩, h7⟩, h8⟩ := h
  exact ⟨He.eqO_ok h1, He.eqO_ok h2, of_decide_eq_true h3, h4, He.eqO_ok h5, He.eqO_ok h6, of_decide_eq_true h7, of_decide_eq_true h8⟩
/-- isinstance of D's instances by the class c, a built-in or an own one -/
def kitB (K : PySem.W.Frag) (D : Addr) (c : Value) (b : Bool) : Bool := decide (PySem.W.kitOne K (.ref D) c = some b)
theorem kitB_ok {K : PySem.W.Frag} {D : Addr} {c : Value} {b : Bool} (h : kitB K D c b = true) : PySem.W.kitOne K (.ref D) c = some b := of_decide_eq_true h
end Lk
namespace Lk
open PySem PySem.Spec PyProof.Rows L2
/-! ### expressions that change what is owned -/
inductive EO (α S : Type) where
  | va (a : α) (s : S)
  | ra (c : Nat) (os : List O)
/-- fresh footprints -/
def Fr (f : Nat → AS) (g : AS) (G H : Hp) : Prop := ∀ x, g x → ¬ All f x ∧ G x = none ∧ ∃ u, H x = some u
/-- values -/
structure Xv (K : PySem.W.Frag) (ca : Nat → Addr) (W : WX) (ρx : EX) {α S : Type} (emb : S → Env) (out : α → O) (σ : L2.St) (G H : Hp) (F : AS) (M : Res (EO α S)) (Q : VK) : Prop where
  nb : M ≠ .bug
  va : ∀ a s, M = .ok (.va a s) → ∀ G' H' f' g v, Evo G H F G' H' (fun x => All f' x ∨ g x) → EnvOk K ca G' H' σ (emb s) f' → Ow K ca G' H' v (out a) g → Fr f' g G' H' → Q v H'
  ex : ∀ c, M = .exc c → ∀ G' H' f', Evo G H F G' H' (All f') → EnvOk K ca G' H' σ ρx.e f' → W (.ref (ca c)) none σ H'
  ra : ∀ c os, M = .ok (.ra c os) → ∀ G' H' f', Evo G H F G' H' (All f') → EnvOk K ca G' H' σ (ρx.emb os) f' → W (.ref (ca c)) none σ H'
/-- tests -/
structure Xb (K : PySem.W.Frag) (ca : Nat → Addr) (W : WX) (ρx : EX) {S : Type} (emb : S → Env) (σ : L2.St) (G H : Hp) (F : AS) (M : Res (EO Bool S)) (Q : Bool → Hp → Prop) : Prop where
  nb : M ≠ .bug
  va : ∀ a s, M = .ok (.va a s) → ∀ G' H' f', Evo G H F G' H' (All f') → EnvOk K ca G' H' σ (emb s) f' → Q a H'
  ex : ∀ c, M = .exc c → ∀ G' H' f', Evo G H F G' H' (All f') → EnvOk K ca G' H' σ ρx.e f' → W (.ref (ca c)) none σ H'
  ra : ∀ c os, M = .ok (.ra c os) → ∀ G' H' f', Evo G H F G' H' (All f') → EnvOk K ca G' H' σ (ρx.emb os) f' → W (.ref (ca c)) none σ H'
def tX (K : PySem.W.Frag) (ca : Nat → Addr) (W : WX) (ρx : EX) {α S : Type} (emb : S → Env) (out : α → O) (ρ : Env) (M : Res (EO α S)) : TE := fun σ H Q => ∃ G f, EnvOk K ca G H σ ρ f ∧ Xv K ca W ρx emb out σ G H (All f) M Q
def tXB (K : PySem.W.Frag) (ca : Nat → Addr) (W : WX) (ρx : EX) {S : Type} (emb : S → Env) (ρ : Env) (M : Res (EO Bool S)) : TT := fun σ H Q => ∃ G f, EnvOk K ca G H σ ρ f ∧ Xb K ca W ρx emb σ G H (All f) M Q
/-- what follows -/
def EO.on {α S β : Type} (k : α → S → Res β) (r : Nat → List O → Res β) : EO α S → Res β
  | .va a s => k a s
  | .ra c os => r c os
abbrev EO.to {α S S' B T : Type} (k : α → S → Res (Out S' B T)) : EO α S → Res (Out S' B T) := EO.on k fun c os => .ok (.ra c os)
abbrev EO.then_ {α β S S' : Type} (k : α → S → Res (EO β S')) : EO α S → Res (EO β S') := EO.on k fun c os => .ok (.ra c os)
@[simp] theorem on_va {α S β : Type} (k : α → S → Res β) (r : Nat → List O → Res β) (a : α) (s : S) : EO.on k r (.va a s) = k a s := rfl
@[simp] theorem on_ra {α S β : Type} (k : α → S → Res β) (r : Nat → List O → Res β) (c : Nat) (os : List O) : EO.on k r (.ra c os : EO α S) = r c os := rfl
section
variable {X : Cx} {ca : Nat → Addr} {W : WX} {ρ : Env} {ρx : EX} {α β S S' S2 B T : Type} {emb : S → Env} {emb' : S' → Env} {emb2 : S2 → Env} {embB : B → Env} {outR : T → RtP} {out : α → O} {e a b c : Expr} {pos pos' : Pos} {n : Str} {i : Nat} {rest sa sb : List Stmt} {σ : L2.St} {G H G1 H1 : Hp} {f f1 : Nat → AS} {g : AS}
theorem Evo.fwd {F F1 F2 : AS} (v : Evo G H F G1 H1 F1) (k : ∀ x, F2 x → F1 x) : Evo G H F G1 H1 F2 := v.less k
/-- pure ones -/
theorem Cr.ofX {K : PySem.W.Frag} {m : Res α} {P : α → Hp → Hp → Prop} {k : α → Res (EO β S)} {out : β → O} {Q : VK} (h : Xv K ca W ρx emb out σ G H (All f) (m >>= k) Q) (E : EnvOk K ca G H σ ρ f) (le : Env.le ρx.e ρ)
    (hk : ∀ a G1 H1, m = .ok a → Gb H G H G1 H1 → EnvOk K ca G1 H1 σ ρ f → Xv K ca W ρx emb out σ G1 H1 (All f) (k a) Q → P a G1 H1) : Cr K ca W ρ σ H G H m P := by
  have hf : ∀ i a, f i a → ∃ u, H a = some u := fun i a q => (E.out i a q).2
  refine ⟨Same.refl _, ⟨f, E, hf⟩, fun e => h.nb (by rw [e]; rfl), fun a e G1 H1 g => hk a G1 H1 e g (E.gb hf g) ?_, fun c e G1 H1 g => ?_⟩
  · have v1 : Evo G H (All f) G1 H1 (All f) := .of_grow g.grow
    subst e
    exact ⟨fun z => h.nb z, fun a s z G' H' f' g' v v' => h.va a s z G' H' f' g' v (v1.trans v'), fun c z G' H' f' v' => h.ex c z G' H' f' (v1.trans v'), fun c os z G' H' f' v' => h.ra c os z G' H' f' (v1.trans v')⟩
  · exact h.ex c (by rw [e]; rfl) G1 H1 f (.of_grow g.grow) ((E.gb hf g).weak le)
theorem Cr.ofXB {K : PySem.W.Frag} {m : Res α} {P : α → Hp → Hp → Prop} {k : α → Res (EO Bool S)} {Q : Bool → Hp → Prop} (h : Xb K ca W ρx emb σ G H (All f) (m >>= k) Q) (E : EnvOk K ca G H σ ρ f) (le : Env.le ρx.e ρ)
    (hk : ∀ a G1 H1, m = .ok a → Gb H G H G1 H1 → EnvOk K ca G1 H1 σ ρ f → Xb K ca W ρx emb σ G1 H1 (All f) (k a) Q → P a G1 H1) : Cr K ca W ρ σ H G H m P := by
  have hf : ∀ i a, f i a → ∃ u, H a = some u := fun i a q => (E.out i a q).2
  refine ⟨Same.refl _, ⟨f, E, hf⟩, fun e => h.nb (by rw [e]; rfl), fun a e G1 H1 g => hk a G1 H1 e g (E.gb hf g) ?_, fun c e G1 H1 g => ?_⟩
  · have v1 : Evo G H (All f) G1 H1 (All f) := .of_grow g.grow
    subst e
    exact ⟨fun z => h.nb z, fun a s z G' H' f' v' => h.va a s z G' H' f' (v1.trans v'), fun c z G' H' f' v' => h.ex c z G' H' f' (v1.trans v'), fun c os z G' H' f' v' => h.ra c os z G' H' f' (v1.trans v')⟩
  · exact h.ex c (by rw [e]; rfl) G1 H1 f (.of_grow g.grow) ((E.gb hf g).weak le)
theorem evo_in {F : AS} (v : Evo G H (All f) G1 H1 F) : Evo G H (All f) G1 H1 F := v
theorem x_pure {m : Res D} (h : PE X e (tD X.K ca W ρ m)) (le : Env.le ρx.e ρ) : PE X e (tX X.K ca W ρx (fun _ : Unit => ρ) O.d ρ (m >>= fun a => .ok (.va a ()))) :=
  PE.of h fun σ H Q ⟨G, f, E, q⟩ => ⟨H, G, Cr.ofX q E le fun a G1 H1 ea g E1 q1 v rv => q1.va a () rfl G1 H1 f none_ v ((Evo.refl E1.sub).less fun x z => z.elim id False.elim) E1 (.d rv) fun x z => z.elim⟩
theorem x_pureL {m : Res (List D)} (h : PE X e (tL X.K ca W ρ m)) (le : Env.le ρx.e ρ) : PE X e (tX X.K ca W ρx (fun _ : Unit => ρ) (O.ol none) ρ (m >>= fun a => .ok (.va a ()))) :=
  PE.of h fun σ H Q ⟨G, f, E, q⟩ => ⟨H, G, Cr.ofX q E le fun a G1 H1 ea g E1 q1 p vs hp gp hh rl => by
    have new : ∀ j, ¬ f j p := fun j z => by
      obtain ⟨_, u, q⟩ := E.out j p z
      rw [hp] at q; cases q
    refine q.va a () (by rw [ea]; rfl) G1 H1 f (fun x => x = p) (.ref p) ⟨g.g, g.sub, fun x o z _ => g.h x o z, fun x o z => (g.new x o z).elim .inl fun q => .inr (.inl q), fun x z => z.elim .inl fun q => .inr (by rw [q]; exact hp)⟩ E1 (.ol hh rl rfl (fun _ e => by cases e)) fun x z => ?_
    rw [z]
    exact ⟨fun ⟨j, z⟩ => new j z, gp, _, hh⟩⟩
theorem xb_pure {m : Res Bool} (h : PT X e (tB X.K ca W ρ m)) (le : Env.le ρx.e ρ) : PT X e (tXB X.K ca W ρx (fun _ : Unit => ρ) ρ (m >>= fun a => .ok (.va a ()))) :=
  PT.of h fun σ H Q ⟨G, f, E, q⟩ => ⟨H, G, Cr.ofXB q E le fun a G1 H1 ea g E1 q1 => q1.va a () rfl G1 H1 f (.refl E1.sub) E1⟩
/-! ### statements -/
theorem So.exprX {M : Res (EO α S)} {k : EO α S → Res (Out S' B T)} {D : Ends} {Q : VK} (h : So X.K ca W ρx emb' embB outR D G H (All f) (M >>= k)) (hra : ∀ c os, k (.ra c os) = .ok (.ra c os))
    (hk : ∀ a s, M = .ok (.va a s) → ∀ G' H' f' g v, Evo G H (All f) G' H' (fun x => All f' x ∨ g x) → EnvOk X.K ca G' H' σ (emb s) f' → Ow X.K ca G' H' v (out a) g → Fr f' g G' H' → Q v H') : Xv X.K ca W ρx emb out σ G H (All f) M Q :=
  ⟨fun z => h.nb (by rw [z]; rfl), hk, fun c z G' H' f' v E => h.ex c (by rw [z]; rfl) σ G' H' f' v E, fun c os z G' H' f' v E => h.ra c os (by rw [z]; exact hra c os) σ G' H' f' v E⟩
theorem So.exprXB {M : Res (EO Bool S)} {k : EO Bool S → Res (Out S' B T)} {D : Ends} {Q : Bool → Hp → Prop} (h : So X.K ca W ρx emb' embB outR D G H (All f) (M >>= k)) (hra : ∀ c os, k (.ra c os) = .ok (.ra c os))
    (hk : ∀ a s, M = .ok (.va a s) → ∀ G' H' f', Evo G H (All f) G' H' (All f') → EnvOk X.K ca G' H' σ (emb s) f' → Q a H') : Xb X.K ca W ρx emb σ G H (All f) M Q :=
  ⟨fun z => h.nb (by rw [z]; rfl), hk, fun c z G' H' f' v E => h.ex c (by rw [z]; rfl) σ G' H' f' v E, fun c os z G' H' f' v E => h.ra c os (by rw [z]; exact hra c os) σ G' H' f' v E⟩
/-- x = e -/
theorem s_setX {M : Res (EO α S)} {k : α → S → Res (Out S' B T)} (hN : X.N.Nodup) (hi : X.N[i]? = some n) (hx : Loc X.env.scope n) (he : PE X e (tX X.K ca W ρx emb out ρ M))
    (h : ∀ a s, PSs X rest (tS X.K ca W ρx emb' embB outR ((emb s).set i (some (out a))) (k a s))) (hs : swapsWith e (some (.Name n pos')) pos.line X.env = pure false := by rfl)
    (hf : X.fn n = true ∨ X.env.scope.names.lookup n = some .local := by first | exact .inl rfl | exact .inr rfl | assumption) : PSs X (.Assign [.Name n pos'] e pos :: rest) (tS X.K ca W ρx emb' embB outR ρ (M >>= EO.to k)) :=
  PSs.ofI (pss_cons (ps_set hN hi hx he hs hf) (PSs.any fun q : α × S => h q.1 q.2)) fun D σ H hl ⟨G, f, E, hq⟩ => ⟨G, f, E, hq.exprX (fun _ _ => rfl) fun a s ea G' H' f' g v ev E1 ow fr => by
    have hiσ : i < σ.length := by rw [hl]; exact (List.getElem?_eq_some_iff.mp hi).1
    exact ⟨(a, s), G', _, E1.store hiσ ow fun x z => ⟨fun j _ q => (fr x z).1 ⟨j, q⟩, (fr x z).2⟩, So.step (m := M) (k := EO.to k) (a := .va a s) hq ea (ev.less fun x z => (all_put z).elim .inr .inl)⟩⟩
theorem s_dropX {M : Res (EO α S)} {k : S → Res (Out S' B T)} (he : PE X e (tX X.K ca W ρx emb out ρ M)) (h : ∀ s, PSs X rest (tS X.K ca W ρx emb' embB outR (emb s) (k s))) (hs : swapsWith e none pos.line X.env = pure false := by rfl) :
    PSs X (.Expr e pos :: rest) (tS X.K ca W ρx emb' embB outR ρ (M >>= EO.to fun _ s => k s)) :=
  PSs.of (pss_cons (ps_expr he hs) (PSs.any h)) fun D σ H ⟨G, f, E, hq⟩ => ⟨G, f, E, hq.exprX (fun _ _ => rfl) fun a s ea G' H' f' g v ev E1 ow fr => ⟨s, G', f', E1, So.step (m := M) (k := EO.to fun _ s => k s) (a := .va a s) hq ea (ev.less fun x z => .inl z)⟩⟩
theorem s_retX {M : Res (EO α S)} {embB : B → Env} (he : PE X e (tX X.K ca W ρx emb out ρ M)) : PS X (.Return (some e) pos) (tS X.K ca W ρx emb' embB (rtO X.K ca out) ρ (M >>= EO.to fun a _ => .ok (.rt a))) :=
  PS.of (ps_ret he) fun D σ H ⟨G, f, E, hq⟩ => ⟨G, f, E, hq.exprX (fun _ _ => rfl) fun a s ea G' H' f' g v ev E1 ow fr => So.rt hq a (by rw [ea]; rfl) v G' H' g (ev.less fun x z => .inr z) ⟨ow, fun x z => (fr x z).2⟩⟩
theorem s_ifX {M : Res (EO Bool S)} {MA MB : S → Res (Out S' B T)} (hc : PT X c (tXB X.K ca W ρx emb ρ M)) (ha : ∀ s, PSs X sa (tS X.K ca W ρx emb' embB outR (emb s) (MA s))) (hb : ∀ s, PSs X sb (tS X.K ca W ρx emb' embB outR (emb s) (MB s))) :
    PS X (.If c sa sb pos) (tS X.K ca W ρx emb' embB outR ρ (M >>= EO.to fun b s => if b then MA s else MB s)) :=
  PS.of (ps_if hc (PSs.any ha) (PSs.any hb)) fun D σ H ⟨G, f, E, hq⟩ => ⟨G, f, E, hq.exprXB (fun _ _ => rfl) fun b s eb G' H' f' ev E1 => by
    have h1 := So.step hq eb ev
    cases b with
    | true => exact ⟨s, G', f', E1, h1⟩
    | false => exact ⟨s, G', f', E1, h1⟩⟩
theorem s_ifxX {M : Res (EO Bool S)} {MA : S → Res (Out Empty B T)} {M2 : S → Res (Out S' B T)} {nE : Empty → Env} (hc : PT X c (tXB X.K ca W ρx emb ρ M)) (ha : ∀ s, PSs X sa (tS X.K ca W ρx nE embB outR (emb s) (MA s))) (h : ∀ s, PSs X rest (tS X.K ca W ρx emb' embB outR (emb s) (M2 s))) :
    PSs X (.If c sa [] pos :: rest) (tS X.K ca W ρx emb' embB outR ρ (M >>= EO.to fun b s => if b then Res.up (MA s) else M2 s)) :=
  PSs.of (pss_cons (ps_if hc (PSs.any ha) pss_nil) (PSs.any h)) fun D σ H ⟨G, f, E, hq⟩ => ⟨G, f, E, hq.exprXB (fun _ _ => rfl) fun b s eb G' H' f' ev E1 => by
    have h1 := So.step hq eb ev
    cases b with
    | true => exact ⟨s, G', f', E1, So.down h1 rfl rfl rfl⟩
    | false => exact ⟨s, G', f', E1, h1⟩⟩
/-- from here on what is raised tells the owned things: os -/
def Res.tell {S B T : Type} (os : List O) : Res (Out S B T) → Res (Out S B T)
  | .exc c => .ok (.ra c os)
  | m => m
@[simp] theorem tell_ok {S B T : Type} (os : List O) (o : Out S B T) : Res.tell os (.ok o) = .ok o := rfl
@[simp] theorem tell_exc {S B T : Type} (os : List O) (c : Nat) : Res.tell os (.exc c : Res (Out S B T)) = .ok (.ra c os) := rfl
@[simp] theorem tell_bug {S B T : Type} (os : List O) : Res.tell os (.bug : Res (Out S B T)) = .bug := rfl
theorem s_tell {M : Res (Out S B T)} {st : List Stmt} {re : Env} {rm : List O → Env} (os : List O) (h : PSs X st (tS X.K ca W ⟨rm os, rm⟩ emb embB outR ρ M)) : PSs X st (tS X.K ca W ⟨re, rm⟩ emb embB outR ρ (Res.tell os M)) :=
  PSs.of h fun D σ H ⟨G, f, E, hq⟩ => ⟨G, f, E, ⟨fun z => hq.nb (by rw [z]; rfl), fun s z => hq.nx s (by rw [z]; rfl), fun s z => hq.bk s (by rw [z]; rfl), fun s z => hq.ct s (by rw [z]; rfl), fun r z => hq.rt r (by rw [z]; rfl), fun c z => hq.ra c os (by rw [z]; rfl), fun c os z => hq.ra c os (by rw [z]; rfl)⟩⟩
end
end Lk
namespace Lk
open PySem PySem.Spec PyProof.Rows L2
/-! ### a part of a state -/
def pinO (v : V) : O → O
  | .ol none xs => .ol (some v) xs
  | o => .pin v o
def reO : Option V → O → O
  | none, o => o
  | some v, o => pinO v o
theorem pinO_ow {K : PySem.W.Frag} {ca : Nat → Addr} {G H : Hp} {v w : V} {o : O} {F : AS} (h : Ow K ca G H v (pinO w o) F) : Ow K ca G H v o F ∧ v = w := by
  unfold pinO at h
  split at h
  · cases h with
    | ol h1 h2 h3 h4 => exact ⟨.ol h1 h2 h3 (fun _ e => by cases e), (h4 _ rfl).symm⟩
  · cases h with
    | pin h1 => exact ⟨h1, rfl⟩
theorem ow_pinO {K : PySem.W.Frag} {ca : Nat → Addr} {G H : Hp} {v : V} {o : O} {F : AS} (h : Ow K ca G H v o F) : Ow K ca G H v (pinO v o) F := by
  unfold pinO
  split
  · cases h with
    | ol h1 h2 h3 h4 => exact .ol h1 h2 h3 (fun _ e => by cases e; rfl)
  · exact .pin h
theorem reO_ow {K : PySem.W.Frag} {ca : Nat → Addr} {G H : Hp} {v : V} {o : O} {F : AS} {r : Option V} (h : Ow K ca G H v (reO r o) F) : Ow K ca G H v o F ∧ ∀ w, r = some w → v = w := by
  cases r with
  | none => exact ⟨h, fun _ e => by cases e⟩
  | some w => exact ⟨(pinO_ow h).1, fun _ e => by cases e; exact (pinO_ow h).2⟩
theorem ow_reO {K : PySem.W.Frag} {ca : Nat → Addr} {G H : Hp} {v : V} {o : O} {F : AS} {r : Option V} (h : Ow K ca G H v o F) (e : ∀ w, r = some w → v = w) : Ow K ca G H v (reO r o) F := by
  cases r with
  | none => exact h
  | some w =>
    have := e w rfl
    subst this
    exact ow_pinO h
def putS (ρ : Env) : List Nat → List (Option V) → List O → Env
  | j :: js, r :: rs, o :: os => (putS ρ js rs os).set j (some (reO r o))
  | j :: js, _, _ => (putS ρ js [] []).set j none
  | [], _, _ => ρ
inductive SAt (ρ : Env) : List Nat → List (Option V) → List O → Prop
  | nil : SAt ρ [] [] []
  | cons {j : Nat} {js : List Nat} {r : Option V} {rs : List (Option V)} {o : O} {os : List O} : ρ[j]? = some (some (reO r o)) → j ∉ js → SAt ρ js rs os → SAt ρ (j :: js) (r :: rs) (o :: os)
inductive VAt (σ : L2.St) : List Nat → List V → Prop
  | nil : VAt σ [] []
  | cons {j : Nat} {js : List Nat} {b : V} {bs : List V} : σ[j]? = some (some b) → VAt σ js bs → VAt σ (j :: js) (b :: bs)
theorem VAt.length {σ : L2.St} : ∀ {js : List Nat} {bs : List V}, VAt σ js bs → bs.length = js.length
  | _, _, .nil => rfl
  | _, _, .cons _ h => by simp [VAt.length h]
theorem VAt.at {σ : L2.St} : ∀ {js : List Nat} {bs : List V}, VAt σ js bs → ∀ {k j : Nat}, js[k]? = some j → ∃ b, bs[k]? = some b ∧ σ[j]? = some (some b)
  | _, _, .nil, k, j, e => by simp at e
  | _, _, .cons h _, 0, j, e => by
    have e' := Option.some.inj (by simpa using e)
    subst e'
    exact ⟨_, rfl, h⟩
  | _, _, .cons _ h, k + 1, j, e => by
    obtain ⟨b, q1, q2⟩ := VAt.at h (k := k) (by simpa using e)
    exact ⟨b, by simpa using q1, q2⟩
theorem SAt.length {ρ : Env} : ∀ {js : List Nat} {rs : List (Option V)} {os : List O}, SAt ρ js rs os → rs.length = js.length ∧ os.length = js.length
  | _, _, _, .nil => ⟨rfl, rfl⟩
  | _, _, _, .cons _ _ h => ⟨by simp [(SAt.length h).1], by simp [(SAt.length h).2]⟩
theorem SAt.nodup {ρ : Env} : ∀ {js : List Nat} {rs : List (Option V)} {os : List O}, SAt ρ js rs os → js.Nodup
  | _, _, _, .nil => List.nodup_nil
  | _, _, _, .cons _ h1 h => List.nodup_cons.mpr ⟨h1, SAt.nodup h⟩
theorem SAt.at {ρ : Env} : ∀ {js : List Nat} {rs : List (Option V)} {os : List O}, SAt ρ js rs os → ∀ {k : Nat} {o : O}, os[k]? = some o → ∃ j r, js[k]? = some j ∧ rs[k]? = some r ∧ ρ[j]? = some (some (reO r o))
  | _, _, _, .nil, k, o, e => by simp at e
  | _, _, _, .cons h _ _, 0, o, e => by
    have e' := Option.some.inj (by simpa using e)
    subst e'
    exact ⟨_, _, rfl, rfl, h⟩
  | _, _, _, .cons _ _ h, k + 1, o, e => by
    obtain ⟨j, r, q1, q2, q3⟩ := SAt.at h (k := k) (by simpa using e)
    exact ⟨j, r, by simpa using q1, by simpa using q2, q3⟩
theorem SAt.at2 {ρ : Env} : ∀ {js : List Nat} {rs : List (Option V)} {os : List O}, SAt ρ js rs os → ∀ {k j : Nat}, js[k]? = some j → ∃ o r, os[k]? = some o ∧ rs[k]? = some r ∧ ρ[j]? = some (some (reO r o))
  | _, _, _, .nil, k, o, e => by simp at e
  | _, _, _, .cons h _ _, 0, o, e => by
    have e' := Option.some.inj (by simpa using e)
    subst e'
    exact ⟨_, _, rfl, rfl, h⟩
  | _, _, _, .cons _ _ h, k + 1, o, e => by
    obtain ⟨j, r, q1, q2, q3⟩ := SAt.at2 h (k := k) (by simpa using e)
    exact ⟨j, r, by simpa using q1, by simpa using q2, q3⟩
theorem putS_get {ρ : Env} : ∀ {js : List Nat} {rs : List (Option V)} {os : List O} {i : Nat} {o : O}, js.Nodup → (putS ρ js rs os)[i]? = some (some o) → (i ∉ js ∧ ρ[i]? = some (some o)) ∨ ∃ (k : Nat) (r : Option V) (o' : O), js[k]? = some i ∧ rs[k]? = some r ∧ os[k]? = some o' ∧ o = reO r o'
  | [], rs, os, i, o, _, h => .inl ⟨by simp, by unfold putS at h; exact h⟩
  | j :: js, r :: rs, o1 :: os, i, o, nd, h => by
    unfold putS at h
    have nd' := List.nodup_cons.mp nd
    by_cases e : i = j
    · subst e
      have hl : i < ((putS ρ js rs os).set i (some (reO r o1))).length := (List.getElem?_eq_some_iff.mp h).1
      rw [List.length_set] at hl
      rw [List.getElem?_set_self hl] at h
      cases h
      exact .inr ⟨0, r, o1, rfl, rfl, rfl, rfl⟩
    · rw [List.getElem?_set_ne (Ne.symm e)] at h
      rcases putS_get nd'.2 h with ⟨q1, q2⟩ | ⟨k, r', o', q1, q2, q3, q4⟩
      · exact .inl ⟨by simp [e, q1], q2⟩
      · exact .inr ⟨k + 1, r', o', by simpa using q1, by simpa using q2, by simpa using q3, q4⟩
  | j :: js, [], os, i, o, nd, h => by
    have h' : ((putS ρ js [] []).set j none)[i]? = some (some o) := by
      cases os <;> (unfold putS at h; exact h)
    have nd' := List.nodup_cons.mp nd
    by_cases e : i = j
    · subst e
      have hl : i < ((putS ρ js [] []).set i none).length := (List.getElem?_eq_some_iff.mp h').1
      rw [List.length_set] at hl
      rw [List.getElem?_set_self hl] at h'
      cases h'
    · rw [List.getElem?_set_ne (Ne.symm e)] at h'
      rcases putS_get nd'.2 h' with ⟨q1, q2⟩ | ⟨k, r', o', q1, q2, q3, q4⟩
      · exact .inl ⟨by simp [e, q1], q2⟩
      · simp at q3
  | j :: js, r :: rs, [], i, o, nd, h => by
    have h' : ((putS ρ js [] []).set j none)[i]? = some (some o) := by
      unfold putS at h; exact h
    have nd' := List.nodup_cons.mp nd
    by_cases e : i = j
    · subst e
      have hl : i < ((putS ρ js [] []).set i none).length := (List.getElem?_eq_some_iff.mp h').1
      rw [List.length_set] at hl
      rw [List.getElem?_set_self hl] at h'
      cases h'
    · rw [List.getElem?_set_ne (Ne.symm e)] at h'
      rcases putS_get nd'.2 h' with ⟨q1, q2⟩ | ⟨k, r', o', q1, q2, q3, q4⟩
      · exact .inl ⟨by simp [e, q1], q2⟩
      · simp at q3
abbrev sv (bs : List V) : L2.St := bs.map some
abbrev eo (os : List O) : Env := os.map some
section
variable {K : PySem.W.Frag} {ca : Nat → Addr} {G H G1 H1 : Hp} {σ : L2.St} {ρ : Env} {f : Nat → AS} {js : List Nat} {rs : List (Option V)} {os os' : List O} {bs : List V}
abbrev subF (js : List Nat) (f : Nat → AS) : Nat → AS := fun k a => ∃ j, js[k]? = some j ∧ f j a
theorem map_some_get {α : Type} {xs : List α} {k : Nat} {x : α} : (xs.map some)[k]? = some (some x) ↔ xs[k]? = some x := by
  rw [List.getElem?_map]
  cases xs[k]? <;> simp
theorem EnvOk.part (E : EnvOk K ca G H σ ρ f) (s : SAt ρ js rs os) (v : VAt σ js bs) : EnvOk K ca G H (sv bs) (eo os) (subF js f) ∧ ∀ (k : Nat) (w : V), rs[k]? = some (some w) → bs[k]? = some w := by
  refine ⟨⟨E.sub, fun k o h => ?_, fun k l a ⟨j, h1, h2⟩ ⟨j', h3, h4⟩ => ?_, fun k a ⟨j, h1, h2⟩ => E.out j a h2⟩, fun k w h => ?_⟩
  · obtain ⟨j, r, q1, q2, q3⟩ := s.at (map_some_get.mp h)
    obtain ⟨b, q4, q5⟩ := v.at q1
    obtain ⟨w, q6, q7⟩ := E.slot j _ q3
    rw [q5] at q6
    cases q6
    exact ⟨b, map_some_get.mpr q4, (reO_ow q7).1.wide fun a z => ⟨j, q1, z⟩⟩
  · have := E.sep j j' a h2 h4
    subst this
    exact (List.getElem?_inj (List.getElem?_eq_some_iff.mp h1).1 s.nodup).mp (by rw [h1, h3])
  · have hk : k < rs.length := (List.getElem?_eq_some_iff.mp h).1
    rw [s.length.1] at hk
    obtain ⟨o, r, q1, q2, q3⟩ := s.at2 (k := k) (List.getElem?_eq_getElem hk)
    rw [h] at q2
    cases q2
    obtain ⟨b, q4, q5⟩ := v.at (k := k) (List.getElem?_eq_getElem hk)
    obtain ⟨w', q6, q7⟩ := E.slot _ _ q3
    rw [q5] at q6
    cases q6
    rw [(reO_ow q7).2 w rfl] at q4
    exact q4
abbrev backF (js : List Nat) (fs' f : Nat → AS) : Nat → AS := fun i a => (∃ k, js[k]? = some i ∧ fs' k a) ∨ (i ∉ js ∧ f i a)
theorem EnvOk.back {g : AS} {fs' : Nat → AS} (E : EnvOk K ca G H σ ρ f) (nd : js.Nodup) (v : VAt σ js bs) (pin : ∀ (k : Nat) (w : V), rs[k]? = some (some w) → bs[k]? = some w) (ev : Evo G H (All (subF js f)) G1 H1 (fun x => All fs' x ∨ g x)) (E' : EnvOk K ca G1 H1 (sv bs) (eo os') fs') (fr : Fr fs' g G1 H1) :
    EnvOk K ca G1 H1 σ (putS ρ js rs os') (backF js fs' f) ∧ Evo G H (All f) G1 H1 (fun x => All (backF js fs' f) x ∨ g x) ∧ Fr (backF js fs' f) g G1 H1 := by
  have inSub : ∀ {x}, All (subF js f) x → ∃ j ∈ js, f j x := fun {x} ⟨k, j, h1, h2⟩ => ⟨j, List.mem_of_getElem? h1, h2⟩
  have keep : ∀ {i x}, i ∉ js → f i x → ¬ All (subF js f) x := fun {i x} hi hx z => by
    obtain ⟨j, h1, h2⟩ := inSub z
    rw [E.sep i j x hx h2] at hi
    exact hi h1
  have apart : ∀ {i x}, i ∉ js → f i x → ¬ (All fs' x ∨ g x) := fun {i x} hi hx z => by
    rcases ev.own x z with q | q
    · exact keep hi hx q
    · obtain ⟨_, u, hu⟩ := E.out i x hx
      rw [q] at hu; cases hu
  refine ⟨⟨ev.sub, fun i o h => ?_, fun i j a h1 h2 => ?_, fun i a h => ?_⟩, ⟨ev.g, ev.sub, fun x o z n => ev.h x o z fun q => ?_, fun x o z => ?_, fun x z => ?_⟩, fun x z => ?_⟩
  · rcases putS_get nd h with ⟨q1, q2⟩ | ⟨k, r, o', q1, q2, q3, q4⟩
    · obtain ⟨w, z1, z2⟩ := E.slot i o q2
      exact ⟨w, z1, (z2.mono ev.g fun a u fa z => ev.h a u z (keep q1 fa)).wide fun a z => .inr ⟨q1, z⟩⟩
    · obtain ⟨b, z1, z2⟩ := v.at q1
      obtain ⟨w, z3, z4⟩ := E'.slot k o' (map_some_get.mpr q3)
      have z5 := map_some_get.mp z3
      rw [z1] at z5
      cases z5
      subst q4
      refine ⟨b, z2, ow_reO (z4.wide fun a z => .inl ⟨k, q1, z⟩) fun w' e => ?_⟩
      subst e
      have := pin k w' q2
      rw [z1] at this
      cases this
      rfl
  · rcases h1 with ⟨k, h1, h3⟩ | ⟨h1, h3⟩ <;> rcases h2 with ⟨l, h2, h4⟩ | ⟨h2, h4⟩
    · have := E'.sep k l a h3 h4
      subst this
      rw [h1] at h2
      cases h2
      rfl
    · exact (apart h2 h4 (.inl ⟨k, h3⟩)).elim
    · exact (apart h1 h3 (.inl ⟨l, h4⟩)).elim
    · exact E.sep i j a h3 h4
  · rcases h with ⟨k, h1, h3⟩ | ⟨h1, h3⟩
    · exact E'.out k a h3
    · obtain ⟨z1, u, z2⟩ := E.out i a h3
      refine ⟨?_, u, ev.h a u z2 (keep h1 h3)⟩
      cases q : G1 a with
      | none => rfl
      | some w =>
        rcases ev.new a w q with z | z | z
        · rw [z1] at z; cases z
        · rw [z2] at z; cases z
        · exact (keep h1 h3 z).elim
  · obtain ⟨j, _, q2⟩ := inSub q
    exact n ⟨j, q2⟩
  · rcases ev.new x o z with q | q | q
    · exact .inl q
    · exact .inr (.inl q)
    · obtain ⟨j, _, q2⟩ := inSub q
      exact .inr (.inr ⟨j, q2⟩)
  · have z' : (All fs' x ∨ g x) ∨ ∃ i, i ∉ js ∧ f i x := by
      rcases z with ⟨i, ⟨k, _, h3⟩ | h⟩ | z
      · exact .inl (.inl ⟨k, h3⟩)
      · exact .inr ⟨i, h⟩
      · exact .inl (.inr z)
    rcases z' with z | ⟨i, _, z⟩
    · rcases ev.own x z with q | q
      · obtain ⟨j, _, q2⟩ := inSub q
        exact .inl ⟨j, q2⟩
      · exact .inr q
    · exact .inl ⟨i, z⟩
  · obtain ⟨z1, z2⟩ := fr x z
    refine ⟨fun ⟨i, q⟩ => ?_, z2⟩
    rcases q with ⟨k, _, h3⟩ | ⟨h1, h3⟩
    · exact z1 ⟨k, h3⟩
    · exact apart h1 h3 (.inr z)
end
/-! ### what a def promises that is lent owned things: ks tells which of the parameters -/
inductive XR (α : Type) where
  | val (a : α)
  | exc (c : Nat)
def mixV : List Bool → List V → List V → List V
  | true :: ks, b :: bs, us => b :: mixV ks bs us
  | false :: ks, bs, u :: us => u :: mixV ks bs us
  | _, _, _ => []
def spM {α : Type} (K : PySem.W.Frag) (ca : Nat → Addr) (ks : List Bool) (out : α → O) (m : List O → List D → Res (XR α × List O)) : Sp := fun vs H Q E => ∃ (G : Hp) (bs us : List V) (os : List O) (ds : List D) (f : Nat → AS),
  vs = mixV ks bs us ∧ EnvOk K ca G H (sv bs) (eo os) f ∧ RL K ca G us ds ∧ bs.length = os.length ∧ m os ds ≠ .bug ∧
  (∀ a os', m os ds = .ok (.val a, os') → ∀ G' H' f' g v, Evo G H (All f) G' H' (fun x => All f' x ∨ g x) → EnvOk K ca G' H' (sv bs) (eo os') f' → Ow K ca G' H' v (out a) g → Fr f' g G' H' → Q v H') ∧
  (∀ c os', m os ds = .ok (.exc c, os') → ∀ G' H' f', Evo G H (All f) G' H' (All f') → EnvOk K ca G' H' (sv bs) (eo os') f' → E (.ref (ca c)) none H')
/-- arguments: names of owned things, and data -/
def tAm (K : PySem.W.Frag) (ca : Nat → Addr) (W : WX) (ρ : Env) (ks : List Bool) (js : List Nat) (m : Res (List D)) : TA := fun σ H Q => ∃ Hb G, Cr K ca W ρ σ Hb G H m fun ds G' H' => ∀ bs us, VAt σ js bs → RL K ca G' us ds → Q (mixV ks bs us) H'
def toEO {α : Type} (snap : List O → List O) : XR α × List O → Res (EO α (List O))
  | (.val a, os) => .ok (.va a os)
  | (.exc c, os) => .ok (.ra c (snap os))
@[simp] theorem toEO_val {α : Type} (snap : List O → List O) (a : α) (os : List O) : toEO snap (.val a, os) = .ok (.va a os) := rfl
@[simp] theorem toEO_exc {α : Type} (snap : List O → List O) (c : Nat) (os : List O) : toEO snap ((.exc c, os) : XR α × List O) = .ok (.ra c (snap os)) := rfl
section
variable {X : Cx} {ca : Nat → Addr} {W : WX} {ρ : Env} {ρx : EX} {α : Type} {out : α → O} {e : Expr} {es : List Expr} {pos p p0 : Pos} {n : Str} {j k : Nat} {ks : List Bool} {js : List Nat} {rs : List (Option V)} {os : List O} {ma : Res D} {mds : Res (List D)} {m : List O → List D → Res (XR α × List O)} {snap : List O → List O}
theorem am_nil : PA X [] (tAm X.K ca W ρ [] [] (.ok [])) := PA.of pa_nil fun σ H Q ⟨Hb, G, h⟩ => h.done [] [] .nil .nil
theorem am_d (ha : PE X e (tD X.K ca W ρ ma)) (hr : PA X es (tAm X.K ca W ρ ks js mds)) (hs : starEach (e :: es) X.env = (false, eval e X.env) :: starEach es X.env := by rfl) : PA X (e :: es) (tAm X.K ca W ρ (false :: ks) js (ma >>= fun x => mds >>= fun xs => .ok (x :: xs))) :=
  PA.of (pa_cons ha hr hs) fun σ H Q ⟨Hb, G, h⟩ => ⟨Hb, G, h.cut fun x G1 H1 _ g1 h1 v rv => ⟨Hb, G1, h1.cut fun xs G2 H2 _ g2 h2 bs us hv rvs => by
    have z := h2.done bs (v :: us) hv (.cons (rv.mono g2.g) rvs)
    exact z⟩⟩
theorem am_b {o : O} (hN : X.N[j]? = some n) (hv : Vis X.env.scope n) (hd : (n == ("__debug__" : Str)) = false) (hcd : (n == ("__classdict__" : Str)) = false) (ho : ρ[j]? = some (some o)) (hr : PA X es (tAm X.K ca W ρ ks js mds))
    (hs : starEach (.Name n p0 :: es) X.env = (false, eval (.Name n p0) X.env) :: starEach es X.env := by rfl) : PA X (.Name n p0 :: es) (tAm X.K ca W ρ (true :: ks) (j :: js) mds) :=
  PA.of (pa_cons (pe_var hN hv hd hcd) hr hs) fun σ H Q ⟨Hb, G, h⟩ => by
    obtain ⟨f, E, hf⟩ := h.env
    obtain ⟨b, q1, _⟩ := E.slot j o ho
    exact ⟨b, q1, Hb, G, h.to fun ds G' H' _ g' q bs us hv rvs => q (b :: bs) us (.cons q1 hv) rvs⟩
theorem spM_of {σ : L2.St} {G H : Hp} {f : Nat → AS} {Q : VK} {ds : List D} {bs us : List V} (E : EnvOk X.K ca G H σ ρ f) (s : SAt ρ js rs os) (hv : VAt σ js bs) (rl : RL X.K ca G us ds) (le2 : ∀ os', Env.le (ρx.emb (snap os')) (putS ρ js rs os'))
    (q : Xv X.K ca W ρx (putS ρ js rs) out σ G H (All f) (m os ds >>= toEO snap) Q) : spM X.K ca ks out m (mixV ks bs us) H Q (WE W σ) := by
  obtain ⟨E1, pin⟩ := E.part s hv
  refine ⟨G, bs, us, os, ds, _, rfl, E1, rl, by rw [hv.length, s.length.2], fun z => q.nb (by rw [z]; rfl), fun a os' z G' H' f' g v ev E' ow fr => ?_, fun c os' z G' H' f' ev E' => ?_⟩
  · obtain ⟨E2, ev2, fr2⟩ := E.back s.nodup hv pin ev E' fr
    exact q.va a os' (by rw [z]; rfl) G' H' _ g v ev2 E2 ow fr2
  · obtain ⟨E2, ev2, fr2⟩ := E.back (g := none_) s.nodup hv pin (ev.less fun x z => z.elim id False.elim) E' (fun x z => z.elim)
    exact q.ra c (snap os') (by rw [z]; rfl) G' H' _ (ev2.less fun x z => .inl z) (E2.weak (le2 os'))
/-- nothing else than told is raised -/
def Res.told {α : Type} : Res α → Res α
  | .exc _ => .bug
  | m => m
@[simp] theorem told_ok {α : Type} (a : α) : Res.told (.ok a) = .ok a := rfl
theorem x_call (c : Cal X.prog X.w X.K X.mg X.base n k (spM X.K ca ks out m) []) (hr : Room k X.A) (hg : Gl X n) (tk : TkE X W) (le : Env.le ρx.e ρ) (s : SAt ρ js rs os) (le2 : ∀ os', Env.le (ρx.emb (snap os')) (putS ρ js rs os'))
    (ha : PA X (e :: es) (tAm X.K ca W ρ ks js mds)) (hdb : (n == ("__debug__" : Str)) = false := by decide) (he : starEach (e :: es) X.env = (false, eval e X.env) :: starEach es X.env := by rfl) (hpl : (backTo pos (starEach es X.env)).any (·.1) = false := by rfl) :
    PE X (.Call (.Name n p) (e :: es) [] pos) (tX X.K ca W ρx (putS ρ js rs) out ρ (mds >>= fun ds => m os ds >>= toEO snap)) :=
  PE.of (pe_callSD (E := WE W) c hr hg tk ha hdb he hpl) fun σ H Q ⟨G, f, E, q⟩ => ⟨H, G, Cr.ofX q E le fun ds G1 H1 _ g1 E1 q1 bs us hv rl => by
    show spM X.K ca ks out m (mixV ks bs us ++ []) H1 Q (WE W σ)
    rw [List.append_nil]
    exact spM_of E1 s hv rl le2 q1⟩
end
/-! ### a def that is lent owned things keeps its promise -/
def envM : List Bool → List V → List O → List D → Env
  | true :: ks, b :: bs, o :: os, ds => some (reO (some b) o) :: envM ks bs os ds
  | false :: ks, bs, os, d :: ds => some (.d d) :: envM ks bs os ds
  | _, _, _, _ => []
/-- which of the lent things stands in a slot -/
def kth : List Bool → Nat → Nat → Option Nat
  | [], _, _ => none
  | true :: _, k, 0 => some k
  | false :: _, _, 0 => none
  | true :: ks, k, i + 1 => kth ks (k + 1) i
  | false :: ks, k, i + 1 => kth ks k i
theorem envM_get {K : PySem.W.Frag} {ca : Nat → Addr} {G : Hp} : ∀ {ks : List Bool} {bs us : List V} {os : List O} {ds : List D} {k i : Nat} {o : O}, RL K ca G us ds → bs.length = os.length → (envM ks bs os ds)[i]? = some (some o) →
    (∃ v d, (mixV ks bs us)[i]? = some v ∧ o = .d d ∧ R K ca G v d) ∨ ∃ q b o', kth ks k i = some (k + q) ∧ bs[q]? = some b ∧ os[q]? = some o' ∧ o = reO (some b) o' ∧ (mixV ks bs us)[i]? = some b
  | [], bs, us, os, ds, k, i, o, r, l, h => by simp [envM] at h
  | true :: ks, [], us, os, ds, k, i, o, r, l, h => by
    cases os with
    | nil => simp [envM] at h
    | cons o os => simp at l
  | true :: ks, b :: bs, us, [], ds, k, i, o, r, l, h => by simp at l
  | true :: ks, b :: bs, us, o1 :: os, ds, k, 0, o, r, l, h => by
    simp only [envM, List.getElem?_cons_zero, Option.some.injEq] at h
    exact .inr ⟨0, b, o1, rfl, rfl, rfl, h.symm, rfl⟩
  | true :: ks, b :: bs, us, o1 :: os, ds, k, i + 1, o, r, l, h => by
    simp only [envM, List.getElem?_cons_succ] at h
    rcases envM_get (k := k + 1) r (by simpa using l) h with ⟨v, d, q1, q2, q3⟩ | ⟨q, b', o', q1, q2, q3, q4, q5⟩
    · exact .inl ⟨v, d, by simpa [mixV] using q1, q2, q3⟩
    · exact .inr ⟨q + 1, b', o', by rw [show k + (q + 1) = k + 1 + q by omega]; exact q1, by simpa using q2, by simpa using q3, q4, by simpa [mixV] using q5⟩
  | false :: ks, bs, us, os, [], k, i, o, r, l, h => by simp [envM] at h
  | false :: ks, bs, us, os, d :: ds, k, i, o, r, l, h => by
    cases r with
    | cons r1 r2 =>
      cases i with
      | zero =>
        simp only [envM, List.getElem?_cons_zero, Option.some.injEq] at h
        exact .inl ⟨_, d, rfl, h.symm, r1⟩
      | succ i =>
        simp only [envM, List.getElem?_cons_succ] at h
        rcases envM_get (k := k) r2 l h with ⟨v, d, q1, q2, q3⟩ | ⟨q, b', o', q1, q2, q3, q4, q5⟩
        · exact .inl ⟨v, d, by simpa [mixV] using q1, q2, q3⟩
        · exact .inr ⟨q, b', o', q1, q2, q3, q4, by simpa [mixV] using q5⟩
theorem kth_inj : ∀ {ks : List Bool} {k i j q : Nat}, kth ks k i = some q → kth ks k j = some q → i = j := by
  have ge : ∀ {ks : List Bool} {k i q : Nat}, kth ks k i = some q → k ≤ q := by
    intro ks
    induction ks with
    | nil => intro k i q h; simp [kth] at h
    | cons b ks ih =>
      intro k i q h
      cases b <;> cases i <;> simp only [kth] at h
      · cases h
      · exact ih h
      · cases h; exact Nat.le_refl _
      · exact Nat.le_of_succ_le (ih h)
  intro ks
  induction ks with
  | nil => intro k i j q h; simp [kth] at h
  | cons b ks ih =>
    intro k i j q h h2
    cases b <;> cases i <;> cases j <;> simp only [kth] at h h2
    · cases h
    · cases h
    · cases h2
    · rw [ih h h2]
    · rfl
    · cases h; have := ge h2; omega
    · cases h2; have := ge h; omega
    · rw [ih h h2]
section
variable {K : PySem.W.Frag} {ca : Nat → Addr} {G H : Hp} {N : List Str} {ks : List Bool} {bs us : List V} {os : List O} {ds : List D} {f : Nat → AS}
theorem start_okM (E : EnvOk K ca G H (sv bs) (eo os) f) (r : RL K ca G us ds) (l : bs.length = os.length) : EnvOk K ca G H (L2.start N (mixV ks bs us)) (envM ks bs os ds) (fun i a => ∃ k, kth ks 0 i = some k ∧ f k a) := by
  refine ⟨E.sub, fun i o h => ?_, fun i j a ⟨k, h1, h2⟩ ⟨k', h3, h4⟩ => ?_, fun i a ⟨k, h1, h2⟩ => E.out k a h2⟩
  · have st : ∀ {v : V}, (mixV ks bs us)[i]? = some v → (L2.start N (mixV ks bs us))[i]? = some (some v) := fun {v} e => by
      have hl := (List.getElem?_eq_some_iff.mp e).1
      unfold L2.start
      rw [List.getElem?_append_left (by rw [List.length_map]; exact hl), List.getElem?_map, e]
      rfl
    rcases envM_get (k := 0) r l h with ⟨v, d, q1, q2, q3⟩ | ⟨q, b, o', q1, q2, q3, q4, q5⟩
    · subst q2
      exact ⟨v, st q1, .d q3⟩
    · subst q4
      obtain ⟨w, z1, z2⟩ := E.slot q o' (map_some_get.mpr q3)
      have z3 := map_some_get.mp z1
      rw [q2] at z3
      cases z3
      exact ⟨b, st q5, ow_reO (z2.wide fun a z => ⟨q, by rw [q1, Nat.zero_add], z⟩) fun _ e => by cases e; rfl⟩
  · have := E.sep k k' a h2 h4
    subst this
    exact kth_inj h1 h3
end
/-- the lent things as they stand: js tells their slots -/
structure LAt (ρ : Env) (js : List Nat) (bs : List V) (os : List O) : Prop where
  nd : js.Nodup
  at_ : ∀ (k : Nat) (o : O), os[k]? = some o → ∃ (j : Nat) (b : V), js[k]? = some j ∧ bs[k]? = some b ∧ ρ[j]? = some (some (reO (some b) o))
theorem LAt.one {ρ : Env} {j : Nat} {b : V} {o : O} (h : ρ[j]? = some (some (reO (some b) o))) : LAt ρ [j] [b] [o] :=
  ⟨by simp, fun k o' e => by
    cases k with
    | zero => simp at e; subst e; exact ⟨j, b, rfl, rfl, h⟩
    | succ k => simp at e⟩
theorem LAt.two {ρ : Env} {j l : Nat} {b c : V} {o q : O} (h : ρ[j]? = some (some (reO (some b) o))) (h2 : ρ[l]? = some (some (reO (some c) q))) (n : (j == l) = false) : LAt ρ [j, l] [b, c] [o, q] :=
  ⟨by simpa using n, fun k o' e => by
    match k with
    | 0 => simp at e; subst e; exact ⟨j, b, rfl, rfl, h⟩
    | 1 => simp at e; subst e; exact ⟨l, c, rfl, rfl, h2⟩
    | k + 2 => simp at e⟩
theorem EnvOk.lent {K : PySem.W.Frag} {ca : Nat → Addr} {G H : Hp} {σ : L2.St} {ρ : Env} {f : Nat → AS} {js : List Nat} {bs : List V} {os : List O} (E : EnvOk K ca G H σ ρ f) (s : LAt ρ js bs os) : EnvOk K ca G H (sv bs) (eo os) (subF js f) := by
  refine ⟨E.sub, fun k o h => ?_, fun k l a ⟨j, h1, h2⟩ ⟨j', h3, h4⟩ => ?_, fun k a ⟨j, h1, h2⟩ => E.out j a h2⟩
  · obtain ⟨j, b, q1, q2, q3⟩ := s.at_ k o (map_some_get.mp h)
    obtain ⟨w, q6, q7⟩ := E.slot j _ q3
    obtain ⟨q8, q9⟩ := reO_ow q7
    have := q9 b rfl
    subst this
    exact ⟨w, map_some_get.mpr q2, q8.wide fun a z => ⟨j, q1, z⟩⟩
  · have := E.sep j j' a h2 h4
    subst this
    exact (List.getElem?_inj (List.getElem?_eq_some_iff.mp h1).1 s.nd).mp (by rw [h1, h3])
def rtM {α : Type} (K : PySem.W.Frag) (ca : Nat → Addr) (bs : List V) (o : α → O) : α × List O → RtP := fun r G H v g => ∃ f g0, EnvOk K ca G H (sv bs) (eo r.2) f ∧ Ow K ca G H v (o r.1) g0 ∧ Fr f g0 G H ∧ ∀ x, (All f x ∨ g0 x) → g x
def finM {α S B : Type} (n : Nat) (fs : S → List O) (non : Option α) : Res (Out S B (α × List O)) → Res (XR α × List O)
  | .ok (.nx s) => (match non with | some a => .ok (.val a, fs s) | none => .bug)
  | .ok (.rt r) => .ok (.val r.1, r.2)
  | .ok (.ra c os) => if os.length = n then .ok (.exc c, os) else .bug
  | _ => .bug
section
variable {α S B : Type} {n : Nat} {fs : S → List O} {non : Option α}
@[simp] theorem finM_nx (a : α) (s : S) : finM (B := B) n fs (some a) (.ok (.nx s)) = .ok (.val a, fs s) := rfl
@[simp] theorem finM_rt (r : α × List O) : finM (B := B) n fs non (.ok (.rt r)) = .ok (.val r.1, r.2) := rfl
@[simp] theorem finM_bug : finM (B := B) n fs non .bug = .bug := rfl
theorem finM_ra {c : Nat} {os : List O} (h : os.length = n) : finM (B := B) n fs non (.ok (.ra c os)) = .ok (.exc c, os) := if_pos h
@[simp] theorem finM_ra1 {c : Nat} {o : O} {fs : S → List O} : finM (B := B) 1 fs non (.ok (.ra c [o])) = .ok (.exc c, [o]) := rfl
@[simp] theorem finM_ra2 {c : Nat} {o q : O} {fs : S → List O} : finM (B := B) 2 fs non (.ok (.ra c [o, q])) = .ok (.exc c, [o, q]) := rfl
theorem finM_exc {c : Nat} {m : Res (Out S B (α × List O))} : finM n fs non m ≠ .exc c := by
  unfold finM
  split <;> (try split) <;> intro z <;> cases z
end
def FM1 {β : Type} (m : O → List D → Res β) : List O → List D → Res β
  | [o], ds => m o ds
  | _, _ => .bug
def FM2 {β : Type} (m : O → O → List D → Res β) : List O → List D → Res β
  | [o, q], ds => m o q ds
  | _, _ => .bug
@[simp] theorem FM1_eq {β : Type} (m : O → List D → Res β) (o : O) (ds : List D) : FM1 m [o] ds = m o ds := rfl
@[simp] theorem FM2_eq {β : Type} (m : O → O → List D → Res β) (o q : O) (ds : List D) : FM2 m [o, q] ds = m o q ds := rfl
theorem FM1_inv {β : Type} {m : O → List D → Res β} {os : List O} {ds : List D} {bs : List V} (h : FM1 m os ds ≠ .bug) (l : bs.length = os.length) : ∃ o b, os = [o] ∧ bs = [b] ∧ m o ds ≠ .bug := by
  match os, bs, l, h with
  | [o], [b], _, h => exact ⟨o, b, rfl, rfl, h⟩
  | [], _, _, h => exact (h rfl).elim
  | _ :: _ :: _, _, _, h => exact (h rfl).elim
theorem FM2_inv {β : Type} {m : O → O → List D → Res β} {os : List O} {ds : List D} {bs : List V} (h : FM2 m os ds ≠ .bug) (l : bs.length = os.length) : ∃ o q b c, os = [o, q] ∧ bs = [b, c] ∧ m o q ds ≠ .bug := by
  match os, bs, l, h with
  | [o, q], [b, c], _, h => exact ⟨o, q, b, c, rfl, rfl, h⟩
  | [], _, _, h => exact (h rfl).elim
  | [_], _, _, h => exact (h rfl).elim
  | _ :: _ :: _ :: _, _, _, h => exact (h rfl).elim
theorem subAll {js : List Nat} {f : Nat → AS} {x : Addr} (h : All (subF js f) x) : All f x := by
  obtain ⟨k, j, _, z⟩ := h
  exact ⟨j, z⟩
section
variable {P : Program} {w : World} {K : PySem.W.Frag} {mg : Str → Option Value} {base : Heap} {ca : Nat → Addr} {x qual : Str} {params : Arguments} {body : List Stmt} {scope : Scope} {dvs : List V} {kws : List (Str × V)} {f : Addr} {fd : FuncData} {N ps : List Str} {k : Nat} {α : Type} {out : α → O} {m : List O → List D → Res (XR α × List O)} {ks : List Bool}
theorem mixV_length : ∀ {ks : List Bool} {bs us : List V}, bs.length = ks.count true → us.length = ks.count false → (mixV ks bs us).length = ks.length
  | [], _, _, _, _ => rfl
  | true :: ks, [], _, h, _ => by simp at h
  | true :: ks, b :: bs, us, h, h2 => by
    simp only [mixV, List.length_cons]
    rw [mixV_length (by simpa using h) (by simpa using h2)]
  | false :: ks, bs, [], _, h => by simp at h
  | false :: ks, bs, u :: us, h, h2 => by
    simp only [mixV, List.length_cons]
    rw [mixV_length (by simpa using h) (by simpa using h2)]
theorem def_M (D0 : FunD K x qual params body scope dvs kws f fd) (Sc : FnScope N ps scope) (hks : ks.length = ps.length) (hlen : ∀ os ds, m os ds ≠ .bug → os.length = ks.count true ∧ ds.length = ks.count false) (non : Option α) (hnon : ∀ a, non = some a → out a = .d .non)
    (hb : ∀ (cdv : Value) (A : Around) (outer : List PySem.Env) (s : Shared) (H : Hp) (E : XK) (bs : List V) (os : List O) (ds : List D), Room k (A.deeper (envOfC qual scope s.heap.objs.size f cdv)) → m os ds ≠ .bug → bs.length = os.length →
      ∃ (S : Type) (emb : S → Lk.Env) (fs : S → List O) (js : List Nat) (rm : List O → Lk.Env) (M : Res (Out S Empty (α × List O))), PSs (cxOf (L2.CX P w) P w K mg base N qual scope f cdv A outer s H E) body (tS K ca (WD E) ⟨[], rm⟩ emb (fun e : Empty => e.elim) (rtM K ca bs out) (envM ks bs os ds) M) ∧
        (∀ s, LAt (emb s) js bs (fs s)) ∧ (∀ os', os'.length = os.length → LAt (rm os') js bs os') ∧ finM os.length fs non M = m os ds) :
    FnOk P w K mg base (L2.CX P w) (k + 1) f fd ps (spM K ca ks out m) := by
  refine D0.ok Sc (fun vs H Q E ⟨G, bs, us, os, ds, f, ev, _, r, l, nb, _⟩ => ?_) fun cdv A outer s H vs Q E hr ⟨G, bs, us, os, ds, f0, ev, E0, r, l, nb, q1, q2⟩ => ?_
  · rw [ev, mixV_length (by rw [l]; exact (hlen os ds nb).1) (by rw [r.length]; exact (hlen os ds nb).2)]
    exact hks
  subst ev
  obtain ⟨S, emb, fs, js, rm, M, hp, le, lx, e⟩ := hb cdv A outer s H E bs os ds hr nb l
  refine ⟨_, hp, G, _, start_okM E0 r l, ?_⟩
  have al : ∀ x, All (fun i a => ∃ k, kth ks 0 i = some k ∧ f0 k a) x → All f0 x := fun x ⟨i, k, _, z⟩ => ⟨k, z⟩
  have bk : ∀ {G' H' : Hp} {F2 : AS}, Evo G H (All (fun i a => ∃ k, kth ks 0 i = some k ∧ f0 k a)) G' H' F2 → Evo G H (All f0) G' H' F2 := fun {G' H' F2} v => ⟨v.g, v.sub, fun a o z n => v.h a o z fun q => n (al a q), fun a o z => (v.new a o z).elim .inl fun q => q.elim (fun q => .inr (.inl q)) fun q => .inr (.inr (al a q)), fun a z => (v.own a z).elim (fun q => .inl (al a q)) .inr⟩
  refine ⟨fun z => nb (by rw [← e, z]; rfl), fun s2 z σ' G' H' f' v E' => ?_, fun b => b.elim, fun b => b.elim, fun r z v G' H' g ev ⟨f', g0, E', ow, fr, sub⟩ => ?_, fun c z => ?_, fun c os' z σ' G' H' f' v E' => ?_⟩
  · cases hn : non with
    | none => exact (nb (by rw [← e, z, hn]; rfl)).elim
    | some a => exact q1 a (fs s2) (by rw [← e, z, hn]; rfl) G' H' _ none_ .non ((bk v).less fun x z => z.elim subAll False.elim) (E'.lent (le s2)) (by rw [hnon a hn]; exact .d .non) fun x z => z.elim
  · exact q1 r.1 r.2 (by rw [← e, z]; rfl) G' H' f' g0 v ((bk ev).less sub) E' ow fr
  · exact (nb (by rw [← e, z]; rfl)).elim
  · by_cases hl : os'.length = os.length
    · exact q2 c os' (by rw [← e, z]; exact finM_ra hl) G' H' _ ((bk v).less fun x z => subAll z) (E'.lent (lx os' hl))
    · exact (nb (by rw [← e, z]; exact if_neg hl)).elim
end
section
variable {X : Cx} {ca : Nat → Addr} {W : WX} {ρ : Env} {ρx : EX} {α S S' B : Type} {emb : S → Env} {emb' : S' → Env} {embB : B → Env} {out : α → O} {e : Expr} {pos : Pos} {js : List Nat} {bs : List V} {os : List O}
theorem s_retMX {M : Res (EO α S)} {fs : S → List O} (he : PE X e (tX X.K ca W ρx emb out ρ M)) (hl : ∀ s, LAt (emb s) js bs (fs s)) : PS X (.Return (some e) pos) (tS X.K ca W ρx emb' embB (rtM X.K ca bs out) ρ (M >>= EO.to fun a s => .ok (.rt (a, fs s)))) :=
  PS.of (ps_ret he) fun D σ H ⟨G, f, E, hq⟩ => ⟨G, f, E, hq.exprX (fun _ _ => rfl) fun a s ea G' H' f' g v ev E1 ow fr => So.rt hq (a, fs s) (by rw [ea]; rfl) v G' H' (fun x => All f' x ∨ g x) ev
    ⟨_, g, E1.lent (hl s), ow, fun x z => ⟨fun ⟨k, j, _, q⟩ => (fr x z).1 ⟨j, q⟩, (fr x z).2⟩, fun x z => z.elim (fun ⟨k, j, _, q⟩ => .inl ⟨j, q⟩) .inr⟩⟩
theorem res_assoc {α β γ : Type} (m : Res α) (f : α → Res β) (g : β → Res γ) : ((m >>= f) >>= g) = (m >>= fun x => f x >>= g) := by cases m <;> rfl
theorem s_retM {ma : Res D} (he : PE X e (tD X.K ca W ρ ma)) (le : Env.le ρx.e ρ) (hl : LAt ρ js bs os) : PS X (.Return (some e) pos) (tS X.K ca W ρx emb' embB (rtM X.K ca bs O.d) ρ (ma >>= fun a => .ok (.rt (a, os)))) := by
  have h := s_retMX (pos := pos) (emb' := emb') (embB := embB) (x_pure he le) (fs := fun _ => os) fun _ => hl
  rw [res_assoc] at h
  exact h
theorem s_retML {ma : Res (List D)} (he : PE X e (tL X.K ca W ρ ma)) (le : Env.le ρx.e ρ) (hl : LAt ρ js bs os) : PS X (.Return (some e) pos) (tS X.K ca W ρx emb' embB (rtM X.K ca bs (O.ol none)) ρ (ma >>= fun a => .ok (.rt (a, os)))) := by
  have h := s_retMX (pos := pos) (emb' := emb') (embB := embB) (x_pureL he le) (fs := fun _ => os) fun _ => hl
  rw [res_assoc] at h
  exact h
theorem s_retMN (hl : LAt ρ js bs os) : PS X (.Return none pos) (tS X.K ca W ρx emb' embB (rtM X.K ca bs O.d) ρ (.ok (.rt (.non, os)))) :=
  PS.of ps_retN fun D σ H ⟨G, f, E, hq⟩ => hq.rt (.non, os) rfl .non G H (fun x => All f x) (Evo.refl E.sub) ⟨_, none_, E.lent hl, .d .non, fun x z => z.elim, fun x z => z.elim (fun ⟨k, j, _, q⟩ => ⟨j, q⟩) False.elim⟩
end
end Lk
namespace Lk
open PySem PySem.Spec PyProof.Rows L2
/-! ### fields of an owned instance -/
def putO (f : Str) (w : O) : List (Str × O) → List (Str × O)
  | [] => [(f, w)]
  | (g, x) :: r => if g = f then (g, w) :: r else (g, x) :: putO f w r
def O.setF (cs : List Nat) (f : Str) (w : O) : O → Res O
  | .oi c fs => if (cs.contains c && decide (fs.length < 900)) = true then .ok (.oi c (putO f w fs)) else .bug
  | _ => .bug
def O.getF (cs : List Nat) (f : Str) : O → Res D
  | .oi c fs => if cs.contains c = true then (match fs.lookup f with | some (.d x) => .ok x | _ => .bug) else .bug
  | _ => .bug
section
variable {K : PySem.W.Frag} {ca : Nat → Addr} {G H H' : Hp}
theorem OwF.length : ∀ {fs : List (Str × O)} {vs : List (Str × V)} {F : AS}, OwF K ca G H vs fs F → vs.length = fs.length
  | [], _, _, h => by cases h; rfl
  | (n, o) :: os, _, _, h => by cases h with | cons h1 h2 h3 h4 h5 => simp [OwF.length h2]
theorem OwF.put {f : Str} {y : V} {w : O} {g : AS} (ow : Ow K ca G H y w g) : ∀ {fs : List (Str × O)} {vs : List (Str × V)} {F : AS}, OwF K ca G H vs fs F → (∀ x, F x → g x → False) → OwF K ca G H (putF f y vs) (putO f w fs) (fun x => F x ∨ g x)
  | [], _, F, h, d => by
    cases h
    exact .cons (F2 := none_) ow .nil (fun a _ z => z.elim) (fun a z => .inr z) fun a z => z.elim
  | (n, o) :: os, _, F, h, d => by
    cases h with
    | @cons _ v vs _ _ _ F1 F2 h1 h2 h3 h4 h5 =>
      by_cases e : n = f
      · subst e
        have e1 : putF n y ((n, v) :: vs) = (n, y) :: vs := if_pos rfl
        have e2 : putO n w ((n, o) :: os) = (n, w) :: os := if_pos rfl
        rw [e1, e2]
        exact .cons ow h2 (fun a z1 z2 => d a (h5 a z2) z1) (fun a z => .inr z) fun a z => .inl (h5 a z)
      · have e1 : putF f y ((n, v) :: vs) = (n, v) :: putF f y vs := if_neg e
        have e2 : putO f w ((n, o) :: os) = (n, o) :: putO f w os := if_neg e
        rw [e1, e2]
        exact .cons h1 (OwF.put ow h2 fun a z1 z2 => d a (h5 a z1) z2) (fun a z1 z2 => z2.elim (h3 a z1) (d a (h4 a z1))) (fun a z => .inl (h4 a z)) fun a z => z.elim (fun z => .inl (h5 a z)) .inr
theorem OwF.get {f : Str} : ∀ {fs : List (Str × O)} {vs : List (Str × V)} {F : AS} {o : O}, OwF K ca G H vs fs F → fs.lookup f = some o → ∃ v F', vs.lookup f = some v ∧ Ow K ca G H v o F' ∧ ∀ a, F' a → F a
  | [], _, _, _, h, e => by simp [List.lookup] at e
  | (n, o0) :: os, _, F, o, h, e => by
    cases h with
    | @cons _ v vs _ _ _ F1 F2 h1 h2 h3 h4 h5 =>
      by_cases hn : (f == n) = true
      · rw [List.lookup_cons, hn] at e
        have e' : o0 = o := Option.some.inj e
        subst e'
        exact ⟨v, F1, by rw [List.lookup_cons, hn], h1, h4⟩
      · have hn' : (f == n) = false := by simpa using hn
        rw [List.lookup_cons, hn'] at e
        obtain ⟨v', F', q1, q2, q3⟩ := OwF.get h2 e
        exact ⟨v', F', by rw [List.lookup_cons, hn']; exact q1, q2, fun a z => h5 a (q3 a z)⟩
/-- the tree at a slot changes, its value stays: footprint F' comes for f i -/
theorem EnvOk.chg {σ : L2.St} {ρ : Env} {f : Nat → AS} {i : Nat} {o o' : O} {v : V} {F' g : AS} (E : EnvOk K ca G H σ ρ f) (ho : ρ[i]? = some (some o)) (hv : σ[i]? = some (some v)) (sub : Same G H') (k : ∀ a u, H a = some u → ¬ f i a → H' a = some u) (ow : Ow K ca G H' v o' F')
    (fr : ∀ a, F' a → (∀ j, j ≠ i → ¬ f j a) ∧ G a = none ∧ ∃ u, H' a = some u) (own : ∀ a, F' a → (All f a ∨ g a) ∨ H a = none) :
    EnvOk K ca G H' σ (ρ.set i (some o')) (fun j => if j = i then F' else f j) ∧ Evo G H (fun x => All f x ∨ g x) G H' (All (fun j => if j = i then F' else f j)) := by
  refine ⟨⟨sub, fun j u hj => ?_, fun j l a h1 h2 => ?_, fun j a h1 => ?_⟩, ⟨Same.refl _, sub, fun a u z n => k a u z fun q => n (.inl ⟨i, q⟩), fun a u z => .inl z, fun a z => ?_⟩⟩
  · by_cases e : j = i
    · subst e
      have hl : j < (ρ.set j (some o')).length := (List.getElem?_eq_some_iff.mp hj).1
      rw [List.length_set] at hl
      rw [List.getElem?_set_self hl] at hj
      cases hj
      exact ⟨v, hv, by simpa using ow⟩
    · rw [List.getElem?_set_ne (Ne.symm e)] at hj
      obtain ⟨w, z1, z2⟩ := E.slot j u hj
      refine ⟨w, z1, ?_⟩
      simp only [e, if_false]
      exact z2.mono (Same.refl _) fun a u' fa z => k a u' z fun q => e (E.sep j i a fa q)
  · by_cases e1 : j = i
    · by_cases e2 : l = i
      · rw [e1, e2]
      · simp only [e1, if_true, e2, if_false] at h1 h2
        exact ((fr a h1).1 l e2 h2).elim
    · by_cases e2 : l = i
      · simp only [e1, if_false, e2, if_true] at h1 h2
        exact ((fr a h2).1 j e1 h1).elim
      · simp only [e1, if_false, e2] at h1 h2
        exact E.sep j l a h1 h2
  · by_cases e1 : j = i
    · simp only [e1, if_true] at h1
      exact (fr a h1).2
    · simp only [e1, if_false] at h1
      obtain ⟨z1, u, z2⟩ := E.out j a h1
      exact ⟨z1, u, k a u z2 fun q => e1 (E.sep j i a h1 q)⟩
  · rcases all_put z with z | z
    · exact own a z
    · exact .inl (.inl z)
end
section
variable {X : Cx} {ca : Nat → Addr} {W : WX} {ρ : Env} {ρx : EX} {α S S' B T : Type} {emb : S → Env} {emb' : S' → Env} {embB : B → Env} {outR : T → RtP} {out : α → O} {e : Expr} {pos pos' p0 : Pos} {n f : Str} {i : Nat} {rest : List Stmt} {r : Option V} {o : O} {cs : List Nat}
/-- x.f = e, x an owned instance -/
theorem s_setFldX {M : Res (EO α S)} {os : S → O} {k : O → S → Res (Out S' B T)} (hN : X.N[i]? = some n) (hv : Vis X.env.scope n) (hd : (n == ("__debug__" : Str)) = false) (hcd : (n == ("__classdict__" : Str)) = false) (ho : ∀ s, (emb s)[i]? = some (some (reO r (os s))))
    (T : ∀ c, cs.contains c = true → Cls X.K (ca c) ∧ NoAttr X.K (ca c) f) (he : PE X e (tX X.K ca W ρx emb out ρ M)) (h : ∀ o' s, PSs X rest (tS X.K ca W ρx emb' embB outR ((emb s).set i (some (reO r o'))) (k o' s)))
    (hs : swapsWith e (some (.Attribute (.Name n p0) f pos')) pos.line X.env = pure false := by rfl) :
    PSs X (.Assign [.Attribute (.Name n p0) f pos'] e pos :: rest) (tS X.K ca W ρx emb' embB outR ρ (M >>= EO.to fun a s => O.setF cs f (out a) (os s) >>= fun o' => k o' s)) :=
  PSs.of (pss_cons (ps_fld (pe_var hN hv hd hcd) he hs) (PSs.any fun q : O × S => h q.1 q.2)) fun D σ H ⟨G, g0, E, hq⟩ => ⟨G, g0, E, hq.exprX (fun _ _ => rfl) fun a s ea G' H' f' g y ev E1 ow fr => by
    have hq1 : So X.K ca W ρx emb' embB outR D G' H' (fun x => All f' x ∨ g x) (O.setF cs f (out a) (os s) >>= fun o' => k o' s) := So.step (m := M) (k := EO.to fun a s => O.setF cs f (out a) (os s) >>= fun o' => k o' s) (a := .va a s) hq ea ev
    obtain ⟨v, q1, q2⟩ := E1.slot i _ (ho s)
    obtain ⟨q3, q4⟩ := reO_ow q2
    refine ⟨v, q1, ?_⟩
    have ho' := ho s
    generalize os s = t at q3 hq1 ho' ⊢
    cases t with
    | oi c fs =>
      by_cases hc : (cs.contains c && decide (fs.length < 900)) = true
      · have hc' := Bool.and_eq_true_iff.mp hc
        have es : O.setF cs f (out a) (.oi c fs) = .ok (.oi c (putO f (out a) fs)) := if_pos hc
        cases q3 with
        | @oi p dx _ fvs _ _ F2 h1 h2 h3 h4 h5 =>
          obtain ⟨t1, t2⟩ := T c hc'.1
          have lf : fvs.length < 1000 := by
            rw [h3.length]
            exact Nat.lt_trans (of_decide_eq_true hc'.2) (by decide)
          refine ⟨p, _, dx, fvs, rfl, h1, t1, t2, lf, ⟨(.oi c (putO f (out a) fs)), s⟩, ?_⟩
          have gp : G' p = none := (E1.out i p h2).1
          have np : ¬ g p := fun z => (fr p z).1 ⟨i, h2⟩
          have sub2 : Same G' (upd H' p (.ins (ca c) dx (putF f y fvs))) := fun a u z => by rw [upd_ne (ne_of_none z gp)]; exact E1.sub a u z
          have ow2 : Ow X.K ca G' (upd H' p (.ins (ca c) dx (putF f y fvs))) (.ref p) (reO r (.oi c (putO f (out a) fs))) (fun x => f' i x ∨ g x) := by
            refine ow_reO (.oi upd_same (.inl h2) (OwF.put (ow.mono (Same.refl _) fun a u ga z => ?_) (h3.mono (Same.refl _) fun a u fa z => ?_) fun x z1 z2 => (fr x z2).1 ⟨i, h5 x z1⟩) (fun z => z.elim h4 np) fun x z => z.elim (fun z => .inl (h5 x z)) .inr) q4
            · rw [upd_ne (fun e => np (by rw [← e]; exact ga))]; exact z
            · rw [upd_ne (fun e => h4 (by rw [← e]; exact fa))]; exact z
          obtain ⟨E2, v2⟩ := E1.chg (F' := fun x => f' i x ∨ g x) (g := g) ho' q1 sub2 (fun a u z nf => by rw [upd_ne (fun e => nf (by rw [e]; exact h2))]; exact z) ow2
            (fun a z => ⟨fun j nj q => z.elim (fun z => nj (E1.sep j i a q z)) fun z => (fr a z).1 ⟨j, q⟩, by
              rcases z with z | z
              · refine ⟨(E1.out i a z).1, ?_⟩
                obtain ⟨u, hu⟩ := (E1.out i a z).2
                by_cases e : a = p
                · exact ⟨_, by rw [e]; exact upd_same⟩
                · exact ⟨u, by rw [upd_ne e]; exact hu⟩
              · refine ⟨(fr a z).2.1, ?_⟩
                obtain ⟨u, hu⟩ := (fr a z).2.2
                exact ⟨u, by rw [upd_ne (fun e => np (by rw [← e]; exact z))]; exact hu⟩⟩)
            (fun a z => z.elim (fun z => .inl (.inl ⟨i, z⟩)) fun z => .inl (.inr z))
          exact ⟨G', _, E2, So.step (m := O.setF cs f (out a) (.oi c fs)) hq1 es v2⟩
      · exact (hq1.nb (by rw [show O.setF cs f (out a) (.oi c fs) = .bug from if_neg hc]; rfl)).elim
    | _ => exact (hq1.nb rfl).elim⟩
theorem s_setFld {ma : Res D} {k : O → Res (Out S' B T)} (hN : X.N[i]? = some n) (hv : Vis X.env.scope n) (hd : (n == ("__debug__" : Str)) = false) (hcd : (n == ("__classdict__" : Str)) = false) (ho : ρ[i]? = some (some (reO r o)))
    (T : ∀ c, cs.contains c = true → Cls X.K (ca c) ∧ NoAttr X.K (ca c) f) (he : PE X e (tD X.K ca W ρ ma)) (le : Env.le ρx.e ρ) (h : ∀ o', PSs X rest (tS X.K ca W ρx emb' embB outR (ρ.set i (some (reO r o'))) (k o')))
    (hs : swapsWith e (some (.Attribute (.Name n p0) f pos')) pos.line X.env = pure false := by rfl) :
    PSs X (.Assign [.Attribute (.Name n p0) f pos'] e pos :: rest) (tS X.K ca W ρx emb' embB outR ρ (ma >>= fun a => O.setF cs f (.d a) o >>= k)) := by
  have q := s_setFldX (S := Unit) (os := fun _ => o) (k := fun o' _ => k o') hN hv hd hcd (fun _ => ho) T (x_pure he le) (fun o' _ => h o') hs
  rw [res_assoc] at q
  exact q
theorem s_setFldL {ma : Res (List D)} {k : O → Res (Out S' B T)} (hN : X.N[i]? = some n) (hv : Vis X.env.scope n) (hd : (n == ("__debug__" : Str)) = false) (hcd : (n == ("__classdict__" : Str)) = false) (ho : ρ[i]? = some (some (reO r o)))
    (T : ∀ c, cs.contains c = true → Cls X.K (ca c) ∧ NoAttr X.K (ca c) f) (he : PE X e (tL X.K ca W ρ ma)) (le : Env.le ρx.e ρ) (h : ∀ o', PSs X rest (tS X.K ca W ρx emb' embB outR (ρ.set i (some (reO r o'))) (k o')))
    (hs : swapsWith e (some (.Attribute (.Name n p0) f pos')) pos.line X.env = pure false := by rfl) :
    PSs X (.Assign [.Attribute (.Name n p0) f pos'] e pos :: rest) (tS X.K ca W ρx emb' embB outR ρ (ma >>= fun a => O.setF cs f (.ol none a) o >>= k)) := by
  have q := s_setFldX (S := Unit) (os := fun _ => o) (k := fun o' _ => k o') hN hv hd hcd (fun _ => ho) T (x_pureL he le) (fun o' _ => h o') hs
  rw [res_assoc] at q
  exact q
/-- x.f, data of an owned instance -/
theorem e_getFld (hN : X.N[i]? = some n) (hv : Vis X.env.scope n) (hd : (n == ("__debug__" : Str)) = false) (hcd : (n == ("__classdict__" : Str)) = false) (ho : ρ[i]? = some (some (reO r o))) (T : ∀ c, cs.contains c = true → Cls X.K (ca c) ∧ NoAttr X.K (ca c) f)
    (hb : attributeBase (.Name n p0) f X.env (eval (.Name n p0) X.env) = eval (.Name n p0) X.env := by rfl) : PE X (.Attribute (.Name n p0) f pos) (tD X.K ca W ρ (O.getF cs f o)) :=
  PE.of (pe_fld (pe_var hN hv hd hcd) hb) fun σ H Q ⟨Hb, G, h⟩ => by
    obtain ⟨g0, E, hf⟩ := h.env
    obtain ⟨v, q1, q2⟩ := E.slot i _ ho
    obtain ⟨q3, q4⟩ := reO_ow q2
    refine ⟨v, q1, ?_⟩
    cases o with
    | oi c fs =>
      by_cases hc : cs.contains c = true
      · cases q3 with
        | @oi p dx _ fvs _ _ F2 h1 h2 h3 h4 h5 =>
          cases e1 : fs.lookup f with
          | none => exact (h.nb (by simp only [O.getF, if_pos hc, e1])).elim
          | some w =>
            obtain ⟨u, F3, z1, z2, z3⟩ := h3.get e1
            cases w with
            | d x =>
              cases z2 with
              | d z2 => exact ⟨p, _, dx, fvs, u, rfl, h1, (T c hc).1, (T c hc).2, z1, h.ok x (by simp only [O.getF, if_pos hc, e1]) G H (.refl E.sub) u z2⟩
            | _ => exact (h.nb (by simp only [O.getF, if_pos hc, e1])).elim
      · exact (h.nb (if_neg hc)).elim
    | _ => exact (h.nb rfl).elim
end
/-! ### a new instance -/
/-- .. of one's own -/
def tO (K : PySem.W.Frag) (ca : Nat → Addr) (W : WX) (ρ : Env) (m : Res O) : TE := fun σ H Q => ∃ Hb G, Cr K ca W ρ σ Hb G H m fun o G' H' => ∀ v g, Ow K ca G' H' v o g → (∀ a, g a → Hb a = none ∧ G' a = none ∧ ∃ u, H' a = some u) → Q v H'
structure CalC (P : Program) (w : World) (K : PySem.W.Frag) (mg : Str → Option Value) (base : Heap) (ca : Nat → Addr) (n : Str) (c k : Nat) (ks : List Bool) (m : List O → List D → Res (XR D × List O)) (dvs : List V) : Prop where
  ex : ∃ (f : Addr) (fd : FuncData) (ps : List Str) (ds : List Value), FnOk P w K mg base (L2.CX P w) k f fd ps (spM K ca (true :: ks) O.d m) ∧ mg n = some (.ref (ca c)) ∧ Mk K (ca c) f ∧ Binds K fd ps ds ∧ Vals dvs ds
def makeO (c : Nat) (m : List O → List D → Res (XR D × List O)) (ds : List D) : Res O := m [.oi c []] ds >>= fun
  | (.val .non, [o]) => .ok o
  | (.exc j, _) => .exc j
  | _ => .bug
theorem mixV_all : ∀ {us : List V}, mixV (List.replicate us.length false) [] us = us
  | [] => rfl
  | u :: us => by simp only [List.length_cons, List.replicate_succ, mixV, mixV_all]
section
variable {X : Cx} {ca : Nat → Addr} {W : WX} {ρ : Env} {n m : Str} {k c : Nat} {sp : Sp} {dvs : List V} {e : Expr} {es : List Expr} {p p2 pos apos : Pos} {mas : Res (List D)} {C : Addr} {f : Addr} {fd : FuncData} {ps : List Str} {ds : List Value} {t : TA}
def tMakeS (C : Addr) (sp : Sp) (dvs : List V) (E : L2.St → XK) (t : TA) : TE := fun σ H Q => t σ H fun vs H1 => ∀ x dx, H1 x = none → H1 dx = none → dx ≠ x →
  sp (.ref x :: (vs ++ dvs)) (upd (upd H1 dx (.own x)) x (.ins C dx [])) (fun v H2 => v = .non ∧ Q (.ref x) H2) (E σ)
theorem pe_makeSD {E : L2.St → XK} (M : Mk X.K C f) (F : FnOk X.prog X.w X.K X.mg X.base (L2.CX X.prog X.w) k f fd ps sp) (hr : Room (k + 1) X.A) (hg : Gl X n) (hm : X.mg n = some (.ref C)) (hb : Binds X.K fd ps ds) (hd : Vals dvs ds) (hx : ∀ σ, PassesAt (L2.CX X.prog X.w) X σ (E σ))
    (ha : PA X (e :: es) t) (hdb : (n == ("__debug__" : Str)) = false := by decide) (he : starEach (e :: es) X.env = (false, eval e X.env) :: starEach es X.env := by rfl) (hpl : (backTo pos (starEach es X.env)).any (·.1) = false := by rfl) :
    PE X (.Call (.Name n p) (e :: es) [] pos) (tMakeS C sp dvs E t) := by
  refine ⟨fun pins s0 σ H0 Q I h => ?_⟩
  refine wpAny_Call_Name_kw (ld_glob I hg hm ?_ hdb)
  refine PySem.W.callWith_K (h₀ := X.base) I.ok.mod.kin M.kp (thn (ha.run pos pins s0 σ H0 _ I h) fun us s ⟨vs, H, I, r, h⟩ => ⟨I.kIn, ?_⟩) he hpl
  have hq := h (s.heap.objs.size + 1) s.heap.objs.size (I.hok.fresh (Nat.le_succ _)) (I.hok.fresh (Nat.le_refl _)) (Nat.ne_of_lt (Nat.lt_succ_self _))
  have I2 := Inv.made (C := C) I
  have r2 : Vals (V.ref (s.heap.objs.size + 1) :: (vs ++ dvs)) (Value.ref (s.heap.objs.size + 1) :: (us ++ ds)) := .cons rfl (r.append hd)
  have hl : (Value.ref (s.heap.objs.size + 1) :: us ++ ds).length = ps.length := by
    have e := r2.length
    rw [F.len _ _ _ _ hq] at e
    exact e.symm
  refine wpAny_call (make_map (f := f) I.kIn M.makes M.init (beq_iff_eq.mp M.fn) (codeAny_mono (F.run _ X.stack _ _ ⟨Value.ref (s.heap.objs.size + 1) :: us, []⟩ (Value.ref (s.heap.objs.size + 1) :: (us ++ ds)) _ _ (E σ) (hr.make C us [])
    (I2.env0.make C us []) (hb _ (Value.ref (s.heap.objs.size + 1) :: us) I2.kIn hl) r2 hq) fun r s' hq' => ?_))
  cases r with
  | error e => exact hx σ pins _ _ e s' I2 hq'
  | ok fl =>
    cases fl with
    | ret u =>
      obtain ⟨v, H', I3, rv, ev, q3⟩ := I2.after hq'
      subst ev
      exact ⟨rv, ⟨V.ref (s.heap.objs.size + 1), H', I3, rfl, q3⟩⟩
    | next => exact False.elim hq'
    | brk => exact False.elim hq'
    | cont => exact False.elim hq'
theorem e_makeO {nk : Nat} {mm : List O → List D → Res (XR D × List O)} {dds : List D} (cc : CalC X.prog X.w X.K X.mg X.base ca n c k (List.replicate nk false) mm dvs) (rd : ∀ G, RL X.K ca G dvs dds) (hr : Room (k + 1) X.A) (hg : Gl X n) (tk : TkE X W) (ha : PA X (e :: es) (tArg X.K ca W ρ mas))
    (hdb : (n == ("__debug__" : Str)) = false := by decide) (he : starEach (e :: es) X.env = (false, eval e X.env) :: starEach es X.env := by rfl) (hpl : (backTo pos (starEach es X.env)).any (·.1) = false := by rfl) :
    PE X (.Call (.Name n p) (e :: es) [] pos) (tO X.K ca W ρ (mas >>= fun ds => if (ds ++ dds).length = nk then makeO c mm (ds ++ dds) else .bug)) := by
  obtain ⟨f, fd, ps, ds0, F, hm, M, hb, hd⟩ := cc.ex
  refine PE.of (pe_makeSD (E := WE W) M F hr hg hm hb hd tk ha hdb he hpl) fun σ H Q ⟨Hb, G, h⟩ => ⟨Hb, G, h.cut fun ds G1 H1 _ g1 h1 vs rvs x dx nx ndx nex => ?_⟩
  by_cases hl : (ds ++ dds).length = nk
  · rw [if_pos hl] at h1
    have rvs2 := rvs.append (rd G1)
    have nb : mm [.oi c []] (ds ++ dds) ≠ .bug := fun z => h1.nb (by unfold makeO; rw [z]; rfl)
    have sG : Same G1 (upd (upd H1 dx (.own x)) x (.ins (ca c) dx [])) := fun a u z => by
      have z1 := h1.sub a u z
      rw [upd_ne (ne_of_none z1 nx), upd_ne (ne_of_none z1 ndx)]
      exact z1
    have old : ∀ a u, H1 a = some u → (upd (upd H1 dx (.own x)) x (.ins (ca c) dx [])) a = some u := fun a u z1 => by
      rw [upd_ne (ne_of_none z1 nx), upd_ne (ne_of_none z1 ndx)]
      exact z1
    have fre : ∀ {a}, (upd (upd H1 dx (.own x)) x (.ins (ca c) dx [])) a = none → H1 a = none := fun {a} z => by
      cases q : H1 a with
      | none => rfl
      | some u => rw [old a u q] at z; cases z
    have gx : G1 x = none := h1.sub.free nx
    have E0 : EnvOk X.K ca G1 (upd (upd H1 dx (.own x)) x (.ins (ca c) dx [])) (sv [.ref x]) (eo [.oi c []]) (fun k a => k = 0 ∧ a = x) := by
      refine ⟨sG, fun i o hi => ?_, fun i j a h1 h2 => by rw [h1.1, h2.1], fun i a h1 => by rw [h1.2]; exact ⟨gx, _, upd_same⟩⟩
      cases i with
      | zero =>
        have e1 : O.oi c [] = o := by simpa using hi
        subst e1
        exact ⟨_, rfl, .oi upd_same ⟨rfl, rfl⟩ (F' := none_) .nil (fun z => z) fun a z => z.elim⟩
      | succ i => simp at hi
    have gb : ∀ {G' H' : Hp} {F' : AS}, Evo G1 (upd (upd H1 dx (.own x)) x (.ins (ca c) dx [])) (All fun k a => k = 0 ∧ a = x) G' H' F' → Gb Hb G1 H1 G' H' := fun {G' H' F'} v =>
      ⟨v.g, v.sub, fun a u z => v.h a u (old a u z) (fun ⟨_, _, q⟩ => by rw [q, nx] at z; cases z), fun a u z => (v.new a u z).elim .inl fun q => q.elim (fun q => .inr (h1.sb.free (fre q))) fun ⟨_, _, q⟩ => .inr (by rw [q]; exact h1.sb.free nx)⟩
    refine ⟨G1, [.ref x], vs ++ dvs, [.oi c []], ds ++ dds, _, ?_, E0, rvs2, rfl, nb, fun a os' z G' H' f' g v ev E' ow fr => ?_, fun j os' z G' H' f' ev E' => ?_⟩
    · have e1 : (vs ++ dvs).length = nk := by rw [rvs2.length, hl]
      rw [← e1]
      simp only [mixV, mixV_all]
    · have e2 : makeO c mm (ds ++ dds) = (match (XR.val a, os') with
        | (.val .non, [o]) => .ok o
        | (.exc j, _) => .exc j
        | _ => .bug) := by unfold makeO; rw [z]; rfl
      cases a with
      | non =>
        cases ow with
        | d rv =>
          cases rv
          refine ⟨rfl, ?_⟩
          match os', e2, E' with
          | [o], e2, E' =>
            obtain ⟨w, z1, z2⟩ := E'.slot 0 o rfl
            have z3 : V.ref x = w := by simpa using z1
            subst z3
            refine h1.ok o e2 G' H' (gb ev) (.ref x) (f' 0) z2 fun a fa => ⟨?_, E'.out 0 a fa⟩
            rcases ev.own a (.inl ⟨0, fa⟩) with ⟨_, _, q⟩ | q
            · rw [q]; exact h1.sb.free nx
            · exact h1.sb.free (fre q)
          | [], e2, _ => exact (h1.nb e2).elim
          | _ :: _ :: _, e2, _ => exact (h1.nb e2).elim
      | _ => exact (h1.nb (by rw [e2])).elim
    · exact h1.ex j (by unfold makeO; rw [z]; rfl) G' H' (gb ev)
  · rw [if_neg hl] at h1
    exact (h1.nb rfl).elim
/-- a new instance is shared -/
theorem e_pubO {e : Expr} {m : Res O} (h : PE X e (tO X.K ca W ρ m)) : PE X e (tD X.K ca W ρ (m >>= fun o => .ok o.frz)) :=
  PE.of h fun σ H Q ⟨Hb, G, h⟩ => ⟨Hb, G, h.cut fun o G1 H1 _ g1 h1 v g ow fr => by
    have k : ∀ a, g a → G1 a = none := fun a z => (fr a z).2.1
    refine h1.ok _ rfl (pubG g G1 H1) H1 ⟨pubG_same k, fun a u z => ?_, Same.refl _, fun a u z => ?_⟩ v (ow.frz k)
    · by_cases q : g a
      · rw [pubG_in q] at z; exact z
      · rw [pubG_out q] at z; exact h1.sub a u z
    · by_cases q : g a
      · exact .inr (fr a q).1
      · rw [pubG_out q] at z; exact .inl z⟩
theorem x_pureO {e : Expr} {ρx : EX} {m : Res O} (h : PE X e (tO X.K ca W ρ m)) (le : Env.le ρx.e ρ) : PE X e (tX X.K ca W ρx (fun _ : Unit => ρ) (fun o : O => o) ρ (m >>= fun a => .ok (.va a ()))) :=
  PE.of h fun σ H Q ⟨G, f, E, q⟩ => ⟨H, G, Cr.ofX q E le fun a G1 H1 ea g E1 q1 v g0 ow fr => by
    refine q.va a () (by rw [ea]; rfl) G1 H1 f g0 v ⟨g.g, g.sub, fun x o z _ => g.h x o z, fun x o z => (g.new x o z).elim .inl fun q => .inr (.inl q), fun x z => z.elim .inl fun q => .inr (fr x q).1⟩ E1 ow fun x z => ⟨fun ⟨j, z2⟩ => ?_, (fr x z).2⟩
    obtain ⟨_, u, q⟩ := E.out j x z2
    rw [(fr x z).1] at q
    cases q⟩
/-! ### C.m(..), m a def of the class C -/
structure ClsFn (K : PySem.W.Frag) (C f : Addr) (m : Str) : Prop where
  rd : ClX.CRead K C (.type "type")
  at_ : PySem.W.findCls K (.ref C) (.type "type") m = some (.val (.ref f))
theorem pe_clsSD {E : L2.St → XK} {pl : Sem Bool} (F : FnOk X.prog X.w X.K X.mg X.base (L2.CX X.prog X.w) k f fd ps sp) (hr : Room k X.A) (hg : Gl X n) (hm : X.mg n = some (.ref C)) (cf : ClsFn X.K C f m) (hk : PySem.W.keepIn X.K (.ref f) = true) (hb : Binds X.K fd ps ds) (hd : Vals dvs ds) (hx : ∀ σ, PassesAt (L2.CX X.prog X.w) X σ (E σ))
    (ha : PA X (e :: es) t) (hdb : (n == ("__debug__" : Str)) = false := by decide) (hst : starEach (e :: es) X.env = (false, eval e X.env) :: starEach es X.env := by rfl) (hpl : (backTo pos (starEach es X.env)).any (·.1) = false := by rfl)
    (ht : eval (.Call (.Attribute (.Name n p) m apos) (e :: es) [] pos) X.env = (do
      let ov ← eval (.Name n p) X.env
      standAt apos.atName
      let (f, first) ← holding [ov] (getMethod ov m pl)
      callWith pos f first (backTo pos (starEach (e :: es) X.env)) (backToKw pos (keywordEach [] X.env))) := by rfl) :
    PE X (.Call (.Attribute (.Name n p) m apos) (e :: es) [] pos) (tCallSD sp dvs E t) := by
  refine ⟨fun pins s σ H Q I h => ?_⟩
  refine PySem.W.methodCall_KW (pl := pl) (thn ((pe_glob (v := .ref C) hg hm rfl hdb).run pins s σ H (fun v H1 => v = .ref C ∧ t σ H1 fun vs H2 => sp (vs ++ dvs) H2 Q (E σ)) I ⟨rfl, h⟩) fun u s1 ⟨x, H1, I1, rx, ex, q⟩ => ?_) ht
  subst ex
  obtain rfl : u = Value.ref C := rx
  refine PySem.W.method_cls I1.kIn cf.rd.ga (ClX.getcval_ok (v := .ref f) I1 cf.rd ⟨cf.at_, rfl⟩ fun s2 I2 => ?_)
  refine PySem.W.callWith_K (first := []) (h₀ := X.base) I.ok.mod.kin hk (thn (ha.run pos pins s2 σ H1 _ I2 q) fun us s3 ⟨vs, H2, I3, r, q2⟩ => ⟨I3.kIn, ?_⟩) hst hpl
  have r2 : Vals (vs ++ dvs) (us ++ ds) := r.append hd
  have hl : (us ++ ds).length = ps.length := by rw [← r2.length]; exact F.len _ _ _ _ q2
  refine wpAny_call (codeAny_mono (F.run X.A X.stack s3 H2 ⟨us, []⟩ (us ++ ds) (vs ++ dvs) Q (E σ) hr I3.env0 (hb s3 us I3.kIn hl) r2 q2) fun r s' hq => ?_)
  cases r with
  | error e => exact hx σ pins H2 s3 e s' I3 hq
  | ok fl =>
    cases fl with
    | ret u => exact I3.after hq
    | next => exact False.elim hq
    | brk => exact False.elim hq
    | cont => exact False.elim hq
end
end Lk
namespace Lk
open PySem PySem.Spec PyProof.Rows L2
section
variable {X : Cx} {ca : Nat → Addr} {W : WX} {ρ : Env} {ρx : EX} {n m : Str} {k c : Nat} {sp : Sp} {o e : Expr} {es : List Expr} {p p2 pos apos : Pos} {mo : Res D} {mas : Res (List D)} {ta : TE} {t : TA}
/-- what a class must have for o.m(..) -/
structure MCal (P : Program) (w : World) (K : PySem.W.Frag) (mg : Str → Option Value) (base : Heap) (C : Addr) (m : Str) (k : Nat) (sp : Sp) (dvs : List V) : Prop where
  cl : Cls K C
  ex : ∃ (f : Addr) (fd : FuncData) (ps : List Str) (ds : List Value), Meth K C m f ∧ FnOk P w K mg base (L2.CX P w) k f fd ps sp ∧ Binds K fd ps ds ∧ Vals dvs ds
theorem MCal.mono {P : Program} {w : World} {K : PySem.W.Frag} {mg : Str → Option Value} {base : Heap} {C : Addr} {m : Str} {j k : Nat} {sp : Sp} {dvs : List V} (h : MCal P w K mg base C m j sp dvs) (hk : j ≤ k) : MCal P w K mg base C m k sp dvs :=
  let ⟨f, fd, ps, ds, a, b, d⟩ := h.ex
  ⟨h.cl, f, fd, ps, ds, a, b.mono hk, d⟩
def tMethA (X : Cx) (k : Nat) (m : Str) (E : L2.St → XK) (ta : TE) (t : TA) : TE := fun σ H Q => ta σ H fun x H1 => ∃ a C dx fs sp dvs, x = .ref a ∧ H1 a = some (.ins C dx fs) ∧ fs.lookup m = none ∧ MCal X.prog X.w X.K X.mg X.base C m k sp dvs ∧
  t σ H1 fun vs H2 => sp (x :: (vs ++ dvs)) H2 Q (E σ)
theorem run_A {E : L2.St → XK} {f : Addr} {fd : FuncData} {ps : List Str} {ds : List Value} {dvs : List V} {pins : List (Addr × Obj)} {σ : L2.St} {H : Hp} {s : Shared} {Q : VK} {us : List Value} {vs : List V} (F : FnOk X.prog X.w X.K X.mg X.base (L2.CX X.prog X.w) k f fd ps sp) (hr : Room k X.A) (hb : Binds X.K fd ps ds) (hd : Vals dvs ds) (hx : ∀ σ, PassesAt (L2.CX X.prog X.w) X σ (E σ))
    (I : Inv X pins σ H s) (r : Vals vs us) (q : sp (vs ++ dvs) H Q (E σ)) : wpAny (model X.prog X.w) X.A (call (.ref f) us) (EP X pins σ Q) X.xe s := by
  have r2 : Vals (vs ++ dvs) (us ++ ds) := r.append hd
  have hl : (us ++ ds).length = ps.length := by rw [← r2.length]; exact F.len _ _ _ _ q
  refine wpAny_call (codeAny_mono (F.run X.A X.stack s H ⟨us, []⟩ (us ++ ds) (vs ++ dvs) Q (E σ) hr I.env0 (hb s us I.kIn hl) r2 q) fun r s' hq => ?_)
  cases r with
  | error e => exact hx σ pins H s e s' I hq
  | ok fl =>
    cases fl with
    | ret u => exact I.after hq
    | next => exact False.elim hq
    | brk => exact False.elim hq
    | cont => exact False.elim hq
theorem pe_methA {E : L2.St → XK} {pl : Sem Bool} (he : PE X o ta) (hr : Room k X.A) (hx : ∀ σ, PassesAt (L2.CX X.prog X.w) X σ (E σ)) (ha : PA X (e :: es) t)
    (hst : starEach (e :: es) X.env = (false, eval e X.env) :: starEach es X.env := by rfl) (hpl : (backTo pos (starEach es X.env)).any (·.1) = false := by rfl)
    (ht : eval (.Call (.Attribute o m apos) (e :: es) [] pos) X.env = (do
      let ov ← eval o X.env
      standAt apos.atName
      let (f, first) ← holding [ov] (getMethod ov m pl)
      callWith pos f first (backTo pos (starEach (e :: es) X.env)) (backToKw pos (keywordEach [] X.env))) := by rfl) :
    PE X (.Call (.Attribute o m apos) (e :: es) [] pos) (tMethA X k m E ta t) := by
  refine ⟨fun pins s σ H Q I h => ?_⟩
  refine PySem.W.methodCall_KW (pl := pl) (thn (he.run pins s σ H _ I h) fun u s1 ⟨x, H1, I1, rx, a, C, dx, fs, sp, dvs, ex, ea, l, ⟨cl, f, fd, ps, ds, hm, F, hb, hd⟩, q⟩ => ?_) ht
  subst ex
  obtain rfl : u = Value.ref a := rx
  refine getmeth_ok I1 ea cl hm l ?_
  refine PySem.W.callWith_K (first := [.ref a]) (h₀ := X.base) I.ok.mod.kin hm.kp (thn (ha.run pos pins s1 σ H1 _ I1 q) fun us s2 ⟨vs, H2, I2, r, q2⟩ => ⟨I2.kIn, ?_⟩) hst hpl
  exact run_A (us := .ref a :: us) (vs := .ref a :: vs) F hr hb hd hx I2 (.cons rfl r) q2
theorem pe_methA0 {E : L2.St → XK} {pl : Sem Bool} (he : PE X o ta) (hr : Room k X.A) (hx : ∀ σ, PassesAt (L2.CX X.prog X.w) X σ (E σ))
    (ht : eval (.Call (.Attribute o m apos) [] [] pos) X.env = (do
      let ov ← eval o X.env
      standAt apos.atName
      let (f, first) ← holding [ov] (getMethod ov m pl)
      callWith pos f first (backTo pos (starEach [] X.env)) (backToKw pos (keywordEach [] X.env))) := by rfl) :
    PE X (.Call (.Attribute o m apos) [] [] pos) (tMethA X k m E ta tNil) := by
  refine ⟨fun pins s σ H Q I h => ?_⟩
  refine PySem.W.methodCall_KW (pl := pl) (thn (he.run pins s σ H _ I h) fun u s1 ⟨x, H1, I1, rx, a, C, dx, fs, sp, dvs, ex, ea, l, ⟨cl, f, fd, ps, ds, hm, F, hb, hd⟩, q⟩ => ?_) ht
  subst ex
  obtain rfl : u = Value.ref a := rx
  refine getmeth_ok I1 ea cl hm l ?_
  exact PySem.W.callWith_K0 (first := [.ref a]) I1.kIn hm.kp (run_A (us := [.ref a]) (vs := [.ref a]) F hr hb hd hx I1 (.cons rfl .nil) q)
/-! methods of what never changes -/
def D.mth {α : Type} (m : Str) (tb : Nat → Option (List D → Res α)) (x : D) : Res (List D → Res α) := match x with
  | .ins c fs => if (fs.lookup m).isNone = true then (match tb c with | some F => .ok fun ds => F (.ins c fs :: ds) | none => .bug) else .bug
  | _ => .bug
theorem RF.lookN {K : PySem.W.Frag} {G : Hp} {f : Str} : ∀ {fs : List (Str × D)} {vs : List (Str × V)}, RF K ca G vs fs → fs.lookup f = none → vs.lookup f = none
  | [], _, h, e => by cases h; rfl
  | (n, d0) :: fs, _, h, e => by
    cases h with
    | cons h1 h2 =>
      by_cases hn : (f == n) = true
      · rw [List.lookup_cons, hn] at e; cases e
      · have hn' : (f == n) = false := by simpa using hn
        rw [List.lookup_cons, hn'] at e ⊢
        exact RF.lookN h2 e
theorem mth_inv {α : Type} {m : Str} {tb : Nat → Option (List D → Res α)} {x : D} (h : D.mth m tb x ≠ .bug) : ∃ c fs F, x = .ins c fs ∧ fs.lookup m = none ∧ tb c = some F ∧ D.mth m tb x = .ok fun ds => F (.ins c fs :: ds) := by
  cases x with
  | ins c fs =>
    by_cases hl : (fs.lookup m).isNone = true
    · cases e : tb c with
      | none => exact (h (by simp only [D.mth, if_pos hl, e])).elim
      | some F => exact ⟨c, fs, F, rfl, by simpa using hl, e, by simp only [D.mth, if_pos hl, e]⟩
    · exact (h (if_neg hl)).elim
  | _ => exact (h rfl).elim
variable {dvs : List V} {dds : List D}
theorem e_meth {tb : Nat → Option (List D → Res D)} (c : ∀ c F, tb c = some F → MCal X.prog X.w X.K X.mg X.base (ca c) m k (spD X.K ca F) dvs) (rd : ∀ G, RL X.K ca G dvs dds) (hr : Room k X.A) (tk : TkE X W) (ho : PE X o (tD X.K ca W ρ mo)) (ha : PA X (e :: es) (tArg X.K ca W ρ mas)) {pl : Sem Bool}
    (hst : starEach (e :: es) X.env = (false, eval e X.env) :: starEach es X.env := by rfl) (hpl : (backTo pos (starEach es X.env)).any (·.1) = false := by rfl)
    (ht : eval (.Call (.Attribute o m apos) (e :: es) [] pos) X.env = (do
      let ov ← eval o X.env
      standAt apos.atName
      let (f, first) ← holding [ov] (getMethod ov m pl)
      callWith pos f first (backTo pos (starEach (e :: es) X.env)) (backToKw pos (keywordEach [] X.env))) := by rfl) :
    PE X (.Call (.Attribute o m apos) (e :: es) [] pos) (tD X.K ca W ρ (mo >>= fun x => D.mth m tb x >>= fun F => mas >>= fun ds => F (ds ++ dds))) :=
  PE.of (pe_methA (E := WE W) (pl := pl) ho hr tk ha hst hpl ht) fun σ H Q ⟨Hb, G, h⟩ => ⟨Hb, G, h.cut fun x G1 H1 _ g1 h1 v rv => by
    obtain ⟨cc, fs, F, rfl, e1, e2, e3⟩ := mth_inv (bind_ne h1.nb)
    rw [e3] at h1
    change Cr _ _ _ _ _ _ _ _ (mas >>= fun ds => F (.ins cc fs :: (ds ++ dds))) _ at h1
    have rv0 := rv
    cases rv with
    | ins q1 q2 => exact ⟨_, _, _, _, _, dvs, rfl, h1.sub _ _ q1, RF.lookN q2 e1, c cc F e2, Hb, G1, h1.cut fun ds G2 H2 _ g2 h2 vs rvs => spD_of h2 (.cons (rv0.mono g2.g) (rvs.append (rd G2)))⟩⟩
theorem e_methL {tb : Nat → Option (List D → Res (List D))} (c : ∀ c F, tb c = some F → MCal X.prog X.w X.K X.mg X.base (ca c) m k (spL X.K ca F) dvs) (rd : ∀ G, RL X.K ca G dvs dds) (hr : Room k X.A) (tk : TkE X W) (ho : PE X o (tD X.K ca W ρ mo)) (ha : PA X (e :: es) (tArg X.K ca W ρ mas)) {pl : Sem Bool}
    (hst : starEach (e :: es) X.env = (false, eval e X.env) :: starEach es X.env := by rfl) (hpl : (backTo pos (starEach es X.env)).any (·.1) = false := by rfl)
    (ht : eval (.Call (.Attribute o m apos) (e :: es) [] pos) X.env = (do
      let ov ← eval o X.env
      standAt apos.atName
      let (f, first) ← holding [ov] (getMethod ov m pl)
      callWith pos f first (backTo pos (starEach (e :: es) X.env)) (backToKw pos (keywordEach [] X.env))) := by rfl) :
    PE X (.Call (.Attribute o m apos) (e :: es) [] pos) (tL X.K ca W ρ (mo >>= fun x => D.mth m tb x >>= fun F => mas >>= fun ds => F (ds ++ dds))) :=
  PE.of (pe_methA (E := WE W) (pl := pl) ho hr tk ha hst hpl ht) fun σ H Q ⟨Hb, G, h⟩ => ⟨Hb, G, h.cut fun x G1 H1 _ g1 h1 v rv => by
    obtain ⟨cc, fs, F, rfl, e1, e2, e3⟩ := mth_inv (bind_ne h1.nb)
    rw [e3] at h1
    change Cr _ _ _ _ _ _ _ _ (mas >>= fun ds => F (.ins cc fs :: (ds ++ dds))) _ at h1
    have rv0 := rv
    cases rv with
    | ins q1 q2 => exact ⟨_, _, _, _, _, dvs, rfl, h1.sub _ _ q1, RF.lookN q2 e1, c cc F e2, Hb, G1, h1.cut fun ds G2 H2 _ g2 h2 vs rvs => spL_of h2 (.cons (rv0.mono g2.g) (rvs.append (rd G2)))⟩⟩
theorem e_meth0 {tb : Nat → Option (List D → Res D)} (c : ∀ c F, tb c = some F → MCal X.prog X.w X.K X.mg X.base (ca c) m k (spD X.K ca F) dvs) (rd : ∀ G, RL X.K ca G dvs dds) (hr : Room k X.A) (tk : TkE X W) (ho : PE X o (tD X.K ca W ρ mo)) {pl : Sem Bool}
    (ht : eval (.Call (.Attribute o m apos) [] [] pos) X.env = (do
      let ov ← eval o X.env
      standAt apos.atName
      let (f, first) ← holding [ov] (getMethod ov m pl)
      callWith pos f first (backTo pos (starEach [] X.env)) (backToKw pos (keywordEach [] X.env))) := by rfl) :
    PE X (.Call (.Attribute o m apos) [] [] pos) (tD X.K ca W ρ (mo >>= fun x => D.mth m tb x >>= fun F => F dds)) :=
  PE.of (pe_methA0 (E := WE W) (pl := pl) ho hr tk ht) fun σ H Q ⟨Hb, G, h⟩ => ⟨Hb, G, h.cut fun x G1 H1 _ g1 h1 v rv => by
    obtain ⟨cc, fs, F, rfl, e1, e2, e3⟩ := mth_inv (bind_ne h1.nb)
    rw [e3] at h1
    change Cr _ _ _ _ _ _ _ _ (F (.ins cc fs :: dds)) _ at h1
    have rv0 := rv
    cases rv with
    | ins q1 q2 => exact ⟨_, _, _, _, _, dvs, rfl, h1.sub _ _ q1, RF.lookN q2 e1, c cc F e2, spD_of (ds := D.ins cc fs :: dds) h1 (.cons rv0 (rd G1))⟩⟩
theorem e_methL0 {tb : Nat → Option (List D → Res (List D))} (c : ∀ c F, tb c = some F → MCal X.prog X.w X.K X.mg X.base (ca c) m k (spL X.K ca F) dvs) (rd : ∀ G, RL X.K ca G dvs dds) (hr : Room k X.A) (tk : TkE X W) (ho : PE X o (tD X.K ca W ρ mo)) {pl : Sem Bool}
    (ht : eval (.Call (.Attribute o m apos) [] [] pos) X.env = (do
      let ov ← eval o X.env
      standAt apos.atName
      let (f, first) ← holding [ov] (getMethod ov m pl)
      callWith pos f first (backTo pos (starEach [] X.env)) (backToKw pos (keywordEach [] X.env))) := by rfl) :
    PE X (.Call (.Attribute o m apos) [] [] pos) (tL X.K ca W ρ (mo >>= fun x => D.mth m tb x >>= fun F => F dds)) :=
  PE.of (pe_methA0 (E := WE W) (pl := pl) ho hr tk ht) fun σ H Q ⟨Hb, G, h⟩ => ⟨Hb, G, h.cut fun x G1 H1 _ g1 h1 v rv => by
    obtain ⟨cc, fs, F, rfl, e1, e2, e3⟩ := mth_inv (bind_ne h1.nb)
    rw [e3] at h1
    change Cr _ _ _ _ _ _ _ _ (F (.ins cc fs :: dds)) _ at h1
    have rv0 := rv
    cases rv with
    | ins q1 q2 => exact ⟨_, _, _, _, _, dvs, rfl, h1.sub _ _ q1, RF.lookN q2 e1, c cc F e2, spL_of (ds := D.ins cc fs :: dds) h1 (.cons rv0 (rd G1))⟩⟩
end
/-! ### C.m(self, ..) with self lent -/
structure CalB (P : Program) (w : World) (K : PySem.W.Frag) (mg : Str → Option Value) (base : Heap) (ca : Nat → Addr) (n m : Str) (c k : Nat) (sp : Sp) (dvs : List V) : Prop where
  ex : ∃ (f : Addr) (fd : FuncData) (ps : List Str) (ds : List Value), FnOk P w K mg base (L2.CX P w) k f fd ps sp ∧ mg n = some (.ref (ca c)) ∧ ClsFn K (ca c) f m ∧ PySem.W.keepIn K (.ref f) = true ∧ Binds K fd ps ds ∧ Vals dvs ds
section
variable {X : Cx} {ca : Nat → Addr} {W : WX} {ρ : Env} {ρx : EX} {n m : Str} {k c : Nat} {α : Type} {out : α → O} {o e : Expr} {es : List Expr} {p p2 pos apos : Pos} {js : List Nat} {ks : List Bool} {rs : List (Option V)} {os : List O} {mds : Res (List D)} {mm : List O → List D → Res (XR α × List O)} {snap : List O → List O}
theorem x_callB {pl : Sem Bool} (cc : CalB X.prog X.w X.K X.mg X.base ca n m c k (spM X.K ca ks out mm) []) (hr : Room k X.A) (hg : Gl X n) (tk : TkE X W) (le : Env.le ρx.e ρ) (s : SAt ρ js rs os) (le2 : ∀ os', Env.le (ρx.emb (snap os')) (putS ρ js rs os'))
    (ha : PA X (e :: es) (tAm X.K ca W ρ ks js mds)) (hdb : (n == ("__debug__" : Str)) = false := by decide) (he : starEach (e :: es) X.env = (false, eval e X.env) :: starEach es X.env := by rfl) (hpl : (backTo pos (starEach es X.env)).any (·.1) = false := by rfl)
    (ht : eval (.Call (.Attribute (.Name n p) m apos) (e :: es) [] pos) X.env = (do
      let ov ← eval (.Name n p) X.env
      standAt apos.atName
      let (f, first) ← holding [ov] (getMethod ov m pl)
      callWith pos f first (backTo pos (starEach (e :: es) X.env)) (backToKw pos (keywordEach [] X.env))) := by rfl) :
    PE X (.Call (.Attribute (.Name n p) m apos) (e :: es) [] pos) (tX X.K ca W ρx (putS ρ js rs) out ρ (mds >>= fun ds => mm os ds >>= toEO snap)) := by
  obtain ⟨f, fd, ps, ds0, F, hm, cf, hk, hb, hd⟩ := cc.ex
  refine PE.of (pe_clsSD (E := WE W) (pl := pl) F hr hg hm cf hk hb hd tk ha hdb he hpl ht) fun σ H Q ⟨G, f, E, q⟩ => ⟨H, G, Cr.ofX q E le fun ds G1 H1 _ g1 E1 q1 bs us hv rl => ?_⟩
  show spM X.K ca ks out mm (mixV ks bs us ++ []) H1 Q (WE W σ)
  rw [List.append_nil]
  exact spM_of E1 s hv rl le2 q1
/-- o.m(..), o the name of an owned instance of a class of the table -/
def oMth {β : Type} (m : Str) (tb : Nat → Option β) : O → Res β
  | .oi c fs => if (fs.lookup m).isNone = true then Res.opt (tb c) else .bug
  | _ => .bug
theorem OwF.lookN {K : PySem.W.Frag} {G H : Hp} {f : Str} : ∀ {fs : List (Str × O)} {vs : List (Str × V)} {F : AS}, OwF K ca G H vs fs F → fs.lookup f = none → vs.lookup f = none
  | [], _, _, h, e => by cases h; rfl
  | (n, d0) :: fs, _, _, h, e => by
    cases h with
    | cons h1 h2 h3 h4 h5 =>
      by_cases hn : (f == n) = true
      · rw [List.lookup_cons, hn] at e; cases e
      · have hn' : (f == n) = false := by simpa using hn
        rw [List.lookup_cons, hn'] at e ⊢
        exact OwF.lookN h2 e
end
/-! ### isinstance of own classes -/
structure InsC (K : PySem.W.Frag) (C : Addr) : Prop where
  cl : Cls K C
  ha : PySem.W.findIn K (.ref C) "__class__" = some (some (.builtin "object.__class__"))
  hn : PySem.W.specialIn K (.builtin "object.__class__") "__get__" = some (some (.builtin "getset_descriptor.__get__"))
  ht : PySem.W.takesIn K (.builtin "object.__class__") = some true
  hm : PySem.W.mroIn K C (.type "object") = some true
def insB (K : PySem.W.Frag) (D : Addr) : Bool :=
  He.eqO (PySem.W.findIn K (.ref D) "__class__") (some (some (.builtin "object.__class__"))) && He.eqO (PySem.W.specialIn K (.builtin "object.__class__") "__get__") (some (some (.builtin "getset_descriptor.__get__"))) && decide (PySem.W.takesIn K (.builtin "object.__class__") = some true) && decide (PySem.W.mroIn K D (.type "object") = some true)
theorem insB_ok {K : PySem.W.Frag} {D : Addr} (cl : Cls K D) (h : insB K D = true) : InsC K D := by
  simp only [insB, Bool.and_eq_true] at h
  obtain ⟨⟨⟨h1, h2⟩, h3⟩, h4⟩ := h
  exact ⟨cl, He.eqO_ok h1, He.eqO_ok h2, of_decide_eq_true h3, of_decide_eq_true h4⟩
def kitV (K : PySem.W.Frag) (D c : Value) (b : Bool) : Bool := decide (PySem.W.kitOne K D c = some b)
theorem kitV_ok {K : PySem.W.Frag} {D c : Value} {b : Bool} (h : kitV K D c b = true) : PySem.W.kitOne K D c = some b := of_decide_eq_true h
def valB (x : Option PySem.W.CFound) (f : Addr) : Bool := match x with
  | some (.val v) => decide (v = .ref f)
  | _ => false
theorem valB_ok {x : Option PySem.W.CFound} {f : Addr} (h : valB x f = true) : x = some (.val (.ref f)) := by
  unfold valB at h
  split at h
  · rw [of_decide_eq_true h]
  · cases h
def clsB (K : PySem.W.Frag) (C f : Addr) (m : Str) : Bool := PySem.W.readsIn K C (.type "type") && He.eqO (PySem.W.specialIn K (.ref C) "__getattribute__") (some (some (.builtin "type.__getattribute__"))) && valB (PySem.W.findCls K (.ref C) (.type "type") m) f
theorem clsB_ok {K : PySem.W.Frag} {C f : Addr} {m : Str} (h : clsB K C f m = true) : ClsFn K C f m := by
  simp only [clsB, Bool.and_eq_true] at h
  exact ⟨⟨h.1.1, He.eqO_ok h.1.2⟩, valB_ok h.2⟩
/-- ti: of the own classes, tt: of the built-in ones -/
def D.isA (ti : Nat → Option Bool) (tt : String → Option Bool) : D → Res D
  | .non => Res.opt ((tt "NoneType").map D.bl)
  | .bl _ => Res.opt ((tt "bool").map D.bl)
  | .int _ => Res.opt ((tt "int").map D.bl)
  | .str _ => Res.opt ((tt "str").map D.bl)
  | .lst _ => Res.opt ((tt "list").map D.bl)
  | .tup _ => Res.opt ((tt "tuple").map D.bl)
  | .ins c _ => Res.opt ((ti c).map D.bl)
  | .dic _ => .bug
  | .any => .bug
section
variable {X : Cx} {ca : Nat → Addr} {W : WX} {ρ : Env} {e ce : Expr} {ma : Res D} {pos : Pos} {c : V} {cv : Value}
theorem e_isA {n1 : Str} {p1 : Pos} {ti : Nat → Option Bool} {tt : String → Option Bool} (ha : PE X e (tD X.K ca W ρ ma)) (hg : Gl X n1) (hm : X.mg n1 = none) (hv : bootBuiltins n1 = some (.builtin "isinstance")) (hce : PE X ce (tC c)) (kc : ClsV c cv)
    (hi : ∀ j b, ti j = some b → InsC X.K (ca j) ∧ PySem.W.kitOne X.K (.ref (ca j)) cv = some b) (ht : ∀ t b, tt t = some b → PySem.W.kitOne X.K (.type t) cv = some b)
    (hn : n1 ≠ "__name__" := by decide) (hdb : (n1 == ("__debug__" : Str)) = false := by decide)
    (he : starEach [e, ce] X.env = (false, eval e X.env) :: starEach [ce] X.env := by rfl) (hpl : (backTo pos (starEach [ce] X.env)).any (·.1) = false := by rfl) (hs2 : starEach [ce] X.env = (false, eval ce X.env) :: starEach [] X.env := by rfl) :
    PE X (.Call (.Name n1 p1) [e, ce] [] pos) (tD X.K ca W ρ (ma >>= fun x => D.isA ti tt x)) :=
  PE.of (pe_callB call_isi hg hm hv (pa_cons ha (pa_cons hce pa_nil hs2) he) hn hdb he hpl) fun σ H Q ⟨Hb, G, h⟩ => ⟨Hb, G, h.cut fun x G1 H1 _ g1 h1 v rv => by
    have fin : ∀ (t : String), TyX X.K H1 v (.type t) → D.isA ti tt x = Res.opt ((tt t).map D.bl) → rIsi X.K [v, c] H1 Q := fun t ty ex => by
      cases e : tt t with
      | none => exact (h1.nb (by rw [ex, e]; rfl)).elim
      | some b => exact ⟨v, c, .type t, cv, b, rfl, kc, ty, ht t b e, h1.ok (.bl b) (by rw [ex, e]; rfl) _ _ (.refl h1.sub) _ (.bl b)⟩
    cases x with
    | non => cases rv; exact fin _ (.base .non) rfl
    | bl b => cases rv; exact fin _ (.base (.bl b)) rfl
    | int i => cases rv; exact fin _ (.base (.int i)) rfl
    | str z => cases rv; exact fin _ (.base (.str z)) rfl
    | lst xs =>
      cases rv with
      | lst q1 q2 =>
        rcases Same.sqL h1.sub q1 with (z | ⟨o, z⟩) | ⟨o, its, n, z, zc, _⟩
        · exact fin _ (.base (.lst z)) rfl
        · exact fin _ (.base (.frz z)) rfl
        · exact fin _ (.kList z zc) rfl
    | tup xs =>
      cases rv with
      | tup q1 q2 =>
        rcases Same.sqT h1.sub q1 with (z | ⟨o, z⟩) | ⟨o, its, n, z, zc, _⟩
        · exact fin _ (.base (.tup z)) rfl
        · exact fin _ (.fTuple z) rfl
        · exact fin _ (.kTuple z zc) rfl
    | ins j fs =>
      cases rv with
      | ins q1 q2 =>
        cases e : ti j with
        | none => exact (h1.nb (by show Res.opt ((ti j).map D.bl) = .bug; rw [e]; rfl)).elim
        | some b =>
          obtain ⟨I, kk⟩ := hi j b e
          exact ⟨_, c, _, cv, b, rfl, kc, .base (.ins (h1.sub _ _ q1) I.cl I.ha I.hn I.ht I.hm), kk, h1.ok (.bl b) (by show Res.opt ((ti j).map D.bl) = _; rw [e]; rfl) _ _ (.refl h1.sub) _ (.bl b)⟩
    | dic fs => exact (h1.nb rfl).elim
    | any => exact (h1.nb rfl).elim⟩
theorem c_own {n : Str} {p : Pos} {C : Addr} (hg : Gl X n) (hm : X.mg n = some (.ref C)) (hdb : (n == ("__debug__" : Str)) = false := by decide) : PE X (.Name n p) (tC (.ref C)) := pe_glob hg hm rfl hdb
theorem c_ty {n : Str} {p : Pos} {T : String} (hg : Gl X n) (hm : X.mg n = none) (hv : bootBuiltins n = some (.type T)) (hn : n ≠ "__name__" := by decide) (hdb : (n == ("__debug__" : Str)) = false := by decide) : PE X (.Name n p) (tC (.ty T)) := pe_bltn (v := .ty T) hg hm hv rfl hn hdb
end
end Lk
namespace Lk
open PySem PySem.Spec PyProof.Rows L2
def newR (c nk : Nat) (m : List O → List D → Res (XR D × List O)) (ds : List D) : Res O := if ds.length = nk then makeO c m ds else .bug
theorem newR_eq {c nk : Nat} {m : List O → List D → Res (XR D × List O)} {ds : List D} (h : ds.length = nk) : newR c nk m ds = makeO c m ds := if_pos h
section
variable {X : Cx} {ca : Nat → Addr} {W : WX} {ρ : Env} {n : Str} {k c : Nat} {dvs : List V} {e : Expr} {es : List Expr} {p pos : Pos} {mas : Res (List D)}
theorem e_newO {nk : Nat} {mm : List O → List D → Res (XR D × List O)} {dds : List D} (cc : CalC X.prog X.w X.K X.mg X.base ca n c k (List.replicate nk false) mm dvs) (rd : ∀ G, RL X.K ca G dvs dds) (hr : Room (k + 1) X.A) (hg : Gl X n) (tk : TkE X W) (ha : PA X (e :: es) (tArg X.K ca W ρ mas))
    (hdb : (n == ("__debug__" : Str)) = false := by decide) (he : starEach (e :: es) X.env = (false, eval e X.env) :: starEach es X.env := by rfl) (hpl : (backTo pos (starEach es X.env)).any (·.1) = false := by rfl) :
    PE X (.Call (.Name n p) (e :: es) [] pos) (tO X.K ca W ρ (mas >>= fun ds => newR c nk mm (ds ++ dds))) := e_makeO cc rd hr hg tk ha hdb he hpl
theorem e_newO0 {nk : Nat} {mm : List O → List D → Res (XR D × List O)} (cc : CalC X.prog X.w X.K X.mg X.base ca n c k (List.replicate nk false) mm []) (hr : Room (k + 1) X.A) (hg : Gl X n) (tk : TkE X W) (ha : PA X (e :: es) (tArg X.K ca W ρ mas))
    (hdb : (n == ("__debug__" : Str)) = false := by decide) (he : starEach (e :: es) X.env = (false, eval e X.env) :: starEach es X.env := by rfl) (hpl : (backTo pos (starEach es X.env)).any (·.1) = false := by rfl) :
    PE X (.Call (.Name n p) (e :: es) [] pos) (tO X.K ca W ρ (mas >>= fun ds => newR c nk mm ds)) := by
  have h := e_newO (p := p) (pos := pos) (dds := []) cc (fun _ => .nil) hr hg tk ha hdb he hpl
  simpa using h
end
/-! several classes asked of a refusal -/
def teAny : List (Nat → Option Bool) → Nat → Option Bool
  | [], _ => some false
  | t :: ts, j => match t j with
    | some true => some true
    | some false => teAny ts j
    | none => none
def tCv (vs : List V) : TA := fun _ H Q => Q vs H
theorem ct_nil {X : Cx} : PA X [] (tCv []) := PA.of pa_nil fun _ _ _ h => h
theorem ct_cons {X : Cx} {e : Expr} {es : List Expr} {v : V} {vs : List V} (h : PE X e (tC v)) (r : PA X es (tCv vs)) (hs : starEach (e :: es) X.env = (false, eval e X.env) :: starEach es X.env := by rfl) : PA X (e :: es) (tCv (v :: vs)) := PA.of (pa_cons h r hs) fun _ _ _ q => q
inductive IsT (K : PySem.W.Frag) (ca : Nat → Addr) : List (Nat → Option Bool) → List V → List Value → Prop
  | nil : IsT K ca [] [] []
  | cons {t : Nat → Option Bool} {ts : List (Nat → Option Bool)} {v : V} {vs : List V} {u : Value} {us : List Value} : (∀ j b, t j = some b → ExcC K (ca j) ∧ PySem.W.kitOne K (.ref (ca j)) u = some b) → ClsV v u → IsT K ca ts vs us → IsT K ca (t :: ts) (v :: vs) (u :: us)
theorem IsT.paired {K : PySem.W.Frag} {ca : Nat → Addr} : ∀ {ts : List (Nat → Option Bool)} {vs : List V} {us : List Value}, IsT K ca ts vs us → Paired ClsV vs us
  | _, _, _, .nil => .nil
  | _, _, _, .cons _ h2 h3 => .cons h2 (IsT.paired h3)
theorem IsT.any {K : PySem.W.Frag} {ca : Nat → Addr} : ∀ {ts : List (Nat → Option Bool)} {vs : List V} {us : List Value}, IsT K ca ts vs us → ∀ {j : Nat} {b : Bool}, teAny ts j = some b → PySem.W.kitAny K (.ref (ca j)) us = some b ∧ (ts ≠ [] → ExcC K (ca j))
  | _, _, _, .nil, j, b, h => by
    cases h
    exact ⟨kitAny_nil, fun z => (z rfl).elim⟩
  | _, _, _, .cons (t := t) (ts := ts) h1 _ h3, j, b, h => by
    cases e : t j with
    | none => simp only [teAny, e] at h; cases h
    | some k =>
      obtain ⟨q1, q2⟩ := h1 j k e
      cases k with
      | true =>
        simp only [teAny, e] at h
        cases h
        exact ⟨kitAny_cons q2 (fun z => by cases z) fun _ => rfl, fun _ => q1⟩
      | false =>
        simp only [teAny, e] at h
        exact ⟨kitAny_cons q2 (fun _ => (IsT.any h3 h).1) (fun z => by cases z), fun _ => q1⟩
section
variable {X : Cx} {ca : Nat → Addr} {W : WX} {ρ : Env} {a : Addr} {oe : Obj} {pn : List (Addr × Obj)} {j i : Nat} {n n1 : Str} {p1 p0 pos tpos : Pos} {ces : List Expr} {kk : Nat}
theorem e_isET {ts : List (Nat → Option Bool)} {vs : List V} {us : List Value} (hz : Zc (.ref (ca j)) none oe) (hfs : ∃ vs, oe.data = .fields vs) (hC : IsT X.K ca ts vs us) (ne : ts ≠ [])
    (hN : X.N[i]? = some n) (hv : Vis X.env.scope n) (hd : (n == ("__debug__" : Str)) = false) (hcd : (n == ("__classdict__" : Str)) = false) (ho : ρ[i]? = some (some (.raw (.ref a))))
    (hg : Gl X n1) (hm : X.mg n1 = none) (hvb : bootBuiltins n1 = some (.builtin "isinstance")) (hce : PA (X.suite a ((a, oe) :: pn)) ces (tCv vs)) (hl : vs.length ≤ 1000) (hn : n1 ≠ "__name__" := by decide) (hdb : (n1 == ("__debug__" : Str)) = false := by decide)
    (he : starEach [.Name n p0, .Tuple ces kk tpos] X.env = (false, eval (.Name n p0) X.env) :: starEach [.Tuple ces kk tpos] X.env := by rfl) (hpl : (backTo pos (starEach [.Tuple ces kk tpos] X.env)).any (·.1) = false := by rfl)
    (hs2 : starEach [.Tuple ces kk tpos] X.env = (false, eval (.Tuple ces kk tpos) X.env) :: starEach [] X.env := by rfl) :
    PE (X.suite a ((a, oe) :: pn)) (.Call (.Name n1 p1) [.Name n p0, .Tuple ces kk tpos] [] pos) (tD X.K ca W ρ (D.isE (teAny ts) j)) := by
  cases e : teAny ts j with
  | none => exact ⟨fun pins s σ H Q I ⟨Hb, G, h⟩ => (h.nb (by unfold D.isE; rw [e]; rfl)).elim⟩
  | some b =>
    obtain ⟨k1, C1⟩ := hC.any e
    refine PE.of (pe_callB (X := X.suite a ((a, oe) :: pn)) (call_isET (C1 ne) hz hfs) hg hm hvb (pa_cons (pe_var (X := X.suite a ((a, oe) :: pn)) hN hv hd hcd) (pa_cons (pe_tup hce) pa_nil hs2) he) hn hdb he hpl) fun σ H Q ⟨Hb, G, h⟩ => ?_
    obtain ⟨f, E, hf⟩ := h.env
    obtain ⟨w, q1, q2⟩ := E.slot i _ ho
    cases q2
    refine ⟨_, q1, Nat.le_trans hl (by decide), fun p hp => ⟨p, vs, us, b, rfl, upd_same, hC.paired, k1, ?_⟩⟩
    have g : Gb Hb G H G (upd H p (.tup vs)) := Gb.own E.sub hp
    exact h.ok (.bl b) (by unfold D.isE; rw [e]; rfl) _ _ g _ (.bl b)
end
/-! facts for all of a list -/
theorem allc_nil {P : Nat → Prop} : ∀ c, ([] : List Nat).contains c = true → P c := fun c h => by cases h
theorem allc_cons {P : Nat → Prop} {a : Nat} {as : List Nat} (h : P a) (t : ∀ c, as.contains c = true → P c) : ∀ c, (a :: as).contains c = true → P c := fun c hc => by
  rw [List.contains_cons, Bool.or_eq_true] at hc
  rcases hc with hc | hc
  · rw [eq_of_beq hc]; exact h
  · exact t c hc
/-- a table by lists -/
def tabB : List (Nat × Bool) → Nat → Option Bool := fun l j => l.lookup j
theorem tabB_all {P : Nat → Bool → Prop} : ∀ {l : List (Nat × Bool)}, (∀ x ∈ l, P x.1 x.2) → ∀ j b, tabB l j = some b → P j b
  | [], _, j, b, h => by cases h
  | (k, c) :: l, hl, j, b, h => by
    by_cases e : (j == k) = true
    · have h' : some c = some b := by
        unfold tabB at h
        rw [List.lookup_cons, e] at h
        exact h
      cases h'
      rw [eq_of_beq e]
      exact hl _ List.mem_cons_self
    · have e' : (j == k) = false := by simpa using e
      refine tabB_all (P := P) (l := l) (fun x hx => hl x (List.mem_cons_of_mem _ hx)) j b ?_
      unfold tabB at h ⊢
      rw [List.lookup_cons, e'] at h
      exact h
end Lk
namespace Lk
open PySem PySem.Spec PyProof.Rows L2
/-! short words for the lent -/
def un1 {α : Type} (k : O → Res α) : List O → Res α
  | [o] => k o
  | _ => .bug
@[simp] theorem un1_eq {α : Type} (k : O → Res α) (o : O) : un1 k [o] = k o := rfl
theorem le_none {ρ' ρ : Env} (h : (ρ'.all fun x => x.isNone) = true) : Env.le ρ' ρ := fun i o e => by
  have q := List.all_eq_true.mp h _ (List.mem_of_getElem? e)
  simp at q
theorem FM1_len {β : Type} {m : O → List D → Res β} {os : List O} {ds : List D} (h : FM1 m os ds ≠ .bug) : os.length = 1 ∧ ∃ o, m o ds ≠ .bug := by
  match os, h with
  | [o], h => exact ⟨rfl, o, h⟩
  | [], h => exact (h rfl).elim
  | _ :: _ :: _, h => exact (h rfl).elim
section
variable {X : Cx} {ca : Nat → Addr} {W : WX} {ρ : Env} {ρx : EX} {α S' B T : Type} {emb' : S' → Env} {embB : B → Env} {outR : T → RtP} {out : α → O} {e c : Expr} {pos pos' : Pos} {n : Str} {i j : Nat} {rest sa sb : List Stmt} {r : Option V}
theorem ps_bug {st : List Stmt} : PSs X st (tS X.K ca W ρx emb' embB outR ρ (.bug : Res (Out S' B T))) := ⟨fun pins s σ H D I ⟨G, f, E, h⟩ => (h.nb rfl).elim⟩
theorem one_of {st : List Stmt} {k : O → Res (Out S' B T)} (h : ∀ o, PSs X st (tS X.K ca W ρx emb' embB outR (putS ρ [j] [r] [o]) (k o))) : ∀ os, PSs X st (tS X.K ca W ρx emb' embB outR (putS ρ [j] [r] os) (un1 k os))
  | [o] => h o
  | [] => ps_bug
  | _ :: _ :: _ => ps_bug
theorem s_dropX1 {M : Res (EO α (List O))} {k : O → Res (Out S' B T)} (he : PE X e (tX X.K ca W ρx (putS ρ [j] [r]) out ρ M)) (h : ∀ o, PSs X rest (tS X.K ca W ρx emb' embB outR (putS ρ [j] [r] [o]) (k o))) (hs : swapsWith e none pos.line X.env = pure false := by rfl) :
    PSs X (.Expr e pos :: rest) (tS X.K ca W ρx emb' embB outR ρ (M >>= EO.to fun _ os => un1 k os)) := s_dropX he (one_of h) hs
end
theorem exI {l : List Bool} (h : l.all id = true) (i : Nat) {b : Bool} (e : l[i]? = some b) : b = true := List.all_eq_true.mp h b (List.mem_of_getElem? e)
def tabS : List (String × Bool) → String → Option Bool := fun l j => l.lookup j
theorem tabS_all {P : String → Bool → Prop} : ∀ {l : List (String × Bool)}, (∀ x ∈ l, P x.1 x.2) → ∀ j b, tabS l j = some b → P j b
  | [], _, j, b, h => by cases h
  | (k, c) :: l, hl, j, b, h => by
    by_cases e : (j == k) = true
    · have h' : some c = some b := by
        unfold tabS at h
        rw [List.lookup_cons, e] at h
        exact h
      cases h'
      rw [eq_of_beq e]
      exact hl _ List.mem_cons_self
    · have e' : (j == k) = false := by simpa using e
      refine tabS_all (P := P) (l := l) (fun x hx => hl x (List.mem_cons_of_mem _ hx)) j b ?_
      unfold tabS at h ⊢
      rw [List.lookup_cons, e'] at h
      exact h
theorem all_nil {α : Type} {P : α → Prop} : ∀ x ∈ ([] : List α), P x := fun x h => by cases h
theorem all_cons {α : Type} {P : α → Prop} {a : α} {l : List α} (h : P a) (t : ∀ x ∈ l, P x) : ∀ x ∈ a :: l, P x := fun x hx => by
  rcases List.mem_cons.mp hx with e | e
  · rw [e]; exact h
  · exact t x e
end Lk
namespace Lk
open PySem PySem.Spec PyProof.Rows L2
/-! x += e, x -= e, whole numbers -/
def D.addI : D → D → Res D
  | .int a, .int b => .ok (.int (a + b))
  | _, _ => .bug
def D.subI : D → D → Res D
  | .int a, .int b => .ok (.int (a - b))
  | _, _ => .bug
@[simp] theorem addI_int (a b : Int) : D.addI (.int a) (.int b) = .ok (.int (a + b)) := rfl
@[simp] theorem subI_int (a b : Int) : D.subI (.int a) (.int b) = .ok (.int (a - b)) := rfl
theorem addI_inv (a b : D) (h : D.addI a b ≠ .bug) : ∃ i j, a = .int i ∧ b = .int j := by
  cases a <;> cases b <;> first | exact ⟨_, _, rfl, rfl⟩ | exact (h rfl).elim
theorem subI_inv (a b : D) (h : D.subI a b ≠ .bug) : ∃ i j, a = .int i ∧ b = .int j := by
  cases a <;> cases b <;> first | exact ⟨_, _, rfl, rfl⟩ | exact (h rfl).elim
section
variable {X : Cx} {ca : Nat → Addr} {S B T : Type} {W : WX} {ρ : Env} {ρx : EX} {emb : S → Env} {embB : B → Env} {out : T → RtP} {e : Expr} {rest : List Stmt} {pos pos' : Pos} {i : Nat} {n : Str} {ma : Res D}
theorem s_augAdd {d0 : D} {k : D → Res (Out S B T)} (hN : X.N.Nodup) (hi : X.N[i]? = some n) (hx : Loc X.env.scope n) (hd : ρ[i]? = some (some (.d d0))) (he : PE X e (tD X.K ca W ρ ma)) (le : Env.le ρx.e ρ)
    (h : ∀ a, PSs X rest (tS X.K ca W ρx emb embB out (ρ.set i (some (.d a))) (k a)))
    (hf : X.fn n = true ∨ X.env.scope.names.lookup n = some .local := by first | exact .inl rfl | exact .inr rfl | assumption) : PSs X (.AugAssign (.Name n pos') .Add e pos :: rest) (tS X.K ca W ρx emb embB out ρ (ma >>= fun b => D.addI d0 b >>= k)) :=
  s_aug (x := 0) hN hi hx ip_add ⟨d0, hd⟩ he le (fun _ _ => rfl) addI_inv hd h hf
theorem s_augSub {d0 : D} {k : D → Res (Out S B T)} (hN : X.N.Nodup) (hi : X.N[i]? = some n) (hx : Loc X.env.scope n) (hd : ρ[i]? = some (some (.d d0))) (he : PE X e (tD X.K ca W ρ ma)) (le : Env.le ρx.e ρ)
    (h : ∀ a, PSs X rest (tS X.K ca W ρx emb embB out (ρ.set i (some (.d a))) (k a)))
    (hf : X.fn n = true ∨ X.env.scope.names.lookup n = some .local := by first | exact .inl rfl | exact .inr rfl | assumption) : PSs X (.AugAssign (.Name n pos') .Sub e pos :: rest) (tS X.K ca W ρx emb embB out ρ (ma >>= fun b => D.subI d0 b >>= k)) :=
  s_aug (x := 0) hN hi hx ip_sub ⟨d0, hd⟩ he le (fun _ _ => rfl) subI_inv hd h hf
end
end Lk
namespace Lk
open PySem PySem.Spec PyProof.Rows L2
theorem b_ValueError : bootBuiltins "ValueError" = some (.type "ValueError") := by decide +kernel
end Lk
namespace Lk
open PySem PySem.Spec PyProof.Rows L2
def two (a b : List D) : O := .oL [.ol none a, .ol none b]
section
variable {X : Cx} {ca : Nat → Addr} {S B T : Type} {W : WX} {ρ : Env} {ρx : EX} {emb : S → Env} {embB : B → Env} {out : T → RtP} {i : Nat} {n : Str} {e e1 e2 : Expr} {rest : List Stmt} {m1 m2 : Res (List D)} {ma : Res D} {pos pos' lpos p0 : Pos}
theorem s_setOL2 {k : List D → List D → Res (Out S B T)} (hN : X.N.Nodup) (hi : X.N[i]? = some n) (hx : Loc X.env.scope n) (he1 : PE X e1 (tL X.K ca W ρ m1)) (he2 : PE X e2 (tL X.K ca W ρ m2)) (le : Env.le ρx.e ρ)
    (h : ∀ a b, PSs X rest (tS X.K ca W ρx emb embB out (ρ.set i (some (two a b))) (k a b))) (hs : swapsWith (.List [e1, e2] lpos) (some (.Name n pos')) pos.line X.env = pure false := by rfl)
    (hs1 : starEach [e1, e2] X.env = (false, eval e1 X.env) :: starEach [e2] X.env := by rfl) (hs2 : starEach [e2] X.env = (false, eval e2 X.env) :: starEach [] X.env := by rfl)
    (hf : X.fn n = true ∨ X.env.scope.names.lookup n = some .local := by first | exact .inl rfl | exact .inr rfl | assumption) : PSs X (.Assign [.Name n pos'] (.List [e1, e2] lpos) pos :: rest) (tS X.K ca W ρx emb embB out ρ (m1 >>= fun a => m2 >>= fun b => k a b)) :=
  PSs.ofI (pss_cons (ps_set hN hi hx (pe_lst (pa_cons he1 (pa_cons he2 pa_nil hs2) hs1)) hs hf) (PSs.any fun p : List D × List D => h p.1 p.2)) fun D σ H hl ⟨G, f, E, hq⟩ => ⟨H, G, hq.expr E le fun a G1 H1 ea g E1 h1 p1 vs1 hp1 gp1 hh1 rl1 => ⟨H1, G1, h1.expr E1 le fun b G2 H2 eb g2 E2 h2 p2 vs2 hp2 gp2 hh2 rl2 => by
    refine ⟨sz' (by simp), fun p hp => ?_⟩
    have hiσ : i < σ.length := by rw [hl]; exact (List.getElem?_eq_some_iff.mp hi).1
    have hh1' : H2 p1 = some (.lst vs1) := g2.h _ _ hh1
    have n12 : p1 ≠ p2 := fun z => by rw [z, hp2] at hh1; cases hh1
    have n1 : p1 ≠ p := fun z => by rw [z, hp] at hh1'; cases hh1'
    have n2 : p2 ≠ p := fun z => by rw [z, hp] at hh2; cases hh2
    have gb : Gb H2 G2 H2 G2 (upd H2 p (.lst [.ref p1, .ref p2])) := Gb.own g2.sub hp
    have E3 := E2.gb (fun j x z => (E2.out j x z).2) gb
    have gp1' : G2 p1 = none := by
      cases q : G2 p1 with
      | none => rfl
      | some u => rcases g2.new p1 u q with z | z
                  · rw [gp1] at z; cases z
                  · rw [hh1] at z; cases z
    have u1 : (upd H2 p (.lst [.ref p1, .ref p2])) p1 = some (.lst vs1) := by rw [upd_ne n1]; exact hh1'
    have u2 : (upd H2 p (.lst [.ref p1, .ref p2])) p2 = some (.lst vs2) := by rw [upd_ne n2]; exact hh2
    have ow : Ow X.K ca G2 (upd H2 p (.lst [.ref p1, .ref p2])) (.ref p) (two a b) (fun x => x = p ∨ x = p1 ∨ x = p2) :=
      .oL (F' := fun x => x = p1 ∨ x = p2) upd_same (.inl rfl) (.cons (F1 := fun x => x = p1) (F2 := fun x => x = p2) (.ol u1 (rl1.mono g2.g) rfl (fun _ z => by cases z)) (.cons (F1 := fun x => x = p2) (F2 := none_) (.ol u2 rl2 rfl (fun _ z => by cases z)) .nil (fun _ _ z => z) (fun _ z => z) (fun _ z => z.elim)) (fun x y z => n12 (y.symm.trans z)) (fun _ z => .inl z) (fun _ z => .inr z))
        (fun z => z.elim (fun z => n1 z.symm) fun z => n2 z.symm) (fun _ z => .inr z)
    have new : ∀ x, (x = p ∨ x = p1 ∨ x = p2) → (∀ j, j ≠ i → ¬ f j x) ∧ G2 x = none ∧ ∃ u, (upd H2 p (.lst [.ref p1, .ref p2])) x = some u := fun x z => by
      rcases z with rfl | rfl | rfl
      · refine ⟨fun j _ q => ?_, g2.sub.free hp, _, upd_same⟩
        obtain ⟨_, u, y⟩ := E2.out j _ q
        rw [hp] at y; cases y
      · refine ⟨fun j _ q => ?_, gp1', _, u1⟩
        obtain ⟨_, u, y⟩ := E.out j _ q
        rw [hp1] at y; cases y
      · refine ⟨fun j _ q => ?_, gp2, _, u2⟩
        obtain ⟨_, u, y⟩ := E1.out j _ q
        rw [hp2] at y; cases y
    have E4 := E3.store hiσ ow new
    have bk : ∀ x, H1 x = none → H x = none := fun x z => by
      cases q : H x with
      | none => rfl
      | some u => rw [g.h x u q] at z; cases z
    have bk2 : ∀ x, H2 x = none → H x = none := fun x z => bk x (by
      cases q : H1 x with
      | none => rfl
      | some u => rw [g2.h x u q] at z; cases z)
    have v : Evo G H (All f) G2 (upd H2 p (.lst [.ref p1, .ref p2])) (All fun j => if j = i then (fun x => x = p ∨ x = p1 ∨ x = p2) else f j) := by
      refine ⟨g.g.trans g2.g, E4.sub, fun x o z _ => ?_, fun x o z => ?_, fun x z => (all_put z).elim (fun q => .inr ?_) .inl⟩
      · have := g2.h x o (g.h x o z)
        rw [upd_ne (fun y => by rw [y, hp] at this; cases this)]
        exact this
      · rcases g2.new x o z with q | q
        · rcases g.new x o q with y | y
          · exact .inl y
          · exact .inr (.inl y)
        · exact .inr (.inl (bk x q))
      · rcases q with rfl | rfl | rfl
        · exact bk2 _ hp
        · exact hp1
        · exact bk _ hp2
    exact ⟨(a, b), G2, _, E4, So.step (m := m2) (So.step (m := m1) hq ea v) eb (Evo.refl E4.sub)⟩⟩⟩
/-! ### what stands in it changes -/
theorem OwL.two_inv {K : PySem.W.Frag} {G H : Hp} {v : V} {a b : List D} {F : AS} (h : Ow K ca G H v (two a b) F) : ∃ p p1 p2 vs1 vs2, v = .ref p ∧ H p = some (.lst [.ref p1, .ref p2]) ∧ H p1 = some (.lst vs1) ∧ H p2 = some (.lst vs2) ∧ RL K ca G vs1 a ∧ RL K ca G vs2 b ∧ F p ∧ F p1 ∧ F p2 ∧ p ≠ p1 ∧ p ≠ p2 ∧ p1 ≠ p2 := by
  cases h with
  | oL h1 h2 h3 h4 h5 =>
    cases h3 with
    | cons a1 a2 a3 a4 a5 =>
      cases a1 with
      | ol b1 b2 b3 b4 =>
        cases a2 with
        | cons c1 c2 c3 c4 c5 =>
          cases c1 with
          | ol d1 d2 d3 d4 =>
            cases c2
            exact ⟨_, _, _, _, _, rfl, h1, b1, d1, b2, d2, h2, h5 _ (a4 _ b3), h5 _ (a5 _ (c4 _ d3)), fun z => h4 (by rw [z]; exact a4 _ b3), fun z => h4 (by rw [z]; exact a5 _ (c4 _ d3)), fun z => a3 _ b3 (by rw [z]; exact c4 _ d3)⟩
theorem mkTwo {K : PySem.W.Frag} {G H : Hp} {p p1 p2 : Addr} {vs1 vs2 : List V} {a b : List D} {F : AS} (h0 : H p = some (.lst [.ref p1, .ref p2])) (h1 : H p1 = some (.lst vs1)) (h2 : H p2 = some (.lst vs2)) (r1 : RL K ca G vs1 a) (r2 : RL K ca G vs2 b) (f0 : F p) (f1 : F p1) (f2 : F p2) (n1 : p ≠ p1) (n2 : p ≠ p2) (n12 : p1 ≠ p2) :
    Ow K ca G H (.ref p) (two a b) F :=
  .oL (F' := fun x => x = p1 ∨ x = p2) h0 f0 (.cons (F1 := fun x => x = p1) (F2 := fun x => x = p2) (.ol h1 r1 rfl (fun _ z => by cases z)) (.cons (F1 := fun x => x = p2) (F2 := none_) (.ol h2 r2 rfl (fun _ z => by cases z)) .nil (fun _ _ z => z) (fun _ z => z) (fun _ z => z.elim)) (fun x y z => n12 (y.symm.trans z)) (fun _ z => .inl z) (fun _ z => .inr z))
    (fun z => z.elim (fun z => n1 z) fun z => n2 z) (fun x z => by rcases z with rfl | rfl <;> assumption)
theorem two_change {K : PySem.W.Frag} {G H : Hp} {σ : L2.St} {f : Nat → AS} {p q : Addr} {us : List V} {o o' : O} (E : EnvOk K ca G H σ ρ f) (ho : ρ[i]? = some (some o)) (hv : σ[i]? = some (some (.ref p))) (fq : f i q) (ow : Ow K ca G (upd H q (.lst us)) (.ref p) o' (f i)) :
    ∃ f', EnvOk K ca G (upd H q (.lst us)) σ (ρ.set i (some o')) f' ∧ Evo G H (All f) G (upd H q (.lst us)) (All f') := by
  have gq := (E.out i q fq).1
  obtain ⟨E2, v⟩ := E.chg (g := none_) ho hv (fun a u z => by rw [upd_ne (ne_of_none z gq)]; exact E.sub a u z) (fun a u z n => by rw [upd_ne (fun e => n (by rw [e]; exact fq))]; exact z) ow (fun a z => ⟨fun j hj y => hj (E.sep j i a y z), (E.out i a z).1, by
    by_cases e : a = q
    · subst e; exact ⟨_, upd_same⟩
    · rw [upd_ne e]; exact (E.out i a z).2⟩) (fun a z => .inl (.inl ⟨i, z⟩))
  exact ⟨_, E2, v.g, v.sub, fun a o z n => v.h a o z fun y => y.elim n fun y => y.elim, fun a o z => (v.new a o z).elim .inl fun y => y.elim (fun y => .inr (.inl y)) fun y => y.elim (fun y => .inr (.inr y)) fun y => y.elim, fun a z => (v.own a z).elim (fun y => y.elim .inl fun y => y.elim) .inr⟩
section
variable {a b : List D} {apos cpos epos sp q0 : Pos} {j0 : Nat} {M : Res (Out S B T)} {k : List D → Res (Out S B T)}
theorem s_app0 (hN : X.N[i]? = some n) (hv : Vis X.env.scope n) (hd : (n == ("__debug__" : Str)) = false) (hcd : (n == ("__classdict__" : Str)) = false)
    (ho : ρ[i]? = some (some (two a b))) (he : PE X e (tD X.K ca W ρ ma)) (le : Env.le ρx.e ρ) (h : ∀ ys, PSs X rest (tS X.K ca W ρx emb embB out (ρ.set i (some (two ys b))) (k ys)))
    (hix : PlainIx (.Constant (.int 0) j0 q0) := by intro _ _; rfl)
    (hbase : attributeBase (.Subscript (.Name n p0) (.Constant (.int 0) j0 q0) sp) "append" X.env (eval (.Subscript (.Name n p0) (.Constant (.int 0) j0 q0) sp) X.env) = eval (.Subscript (.Name n p0) (.Constant (.int 0) j0 q0) sp) X.env := by rfl)
    (hfew : ((backTo cpos (starEach [e] X.env)).all (fun x => !x.1) && (backToKw cpos (keywordEach [] X.env)).all (fun x => x.1.isSome)
      && decide ([e].length + ([] : List Keyword).length + (if ([] : List Keyword).isEmpty then 0 else 1) < 30)) = true := by rfl)
    (hline : (apos.endLine == cpos.line) = true := by rfl) (hs : starEach [e] X.env = (false, eval e X.env) :: starEach [] X.env := by rfl) (hplain : (backTo cpos (starEach [] X.env)).any (·.1) = false := by rfl)
    (hsw : swapsWith (.Call (.Attribute (.Subscript (.Name n p0) (.Constant (.int 0) j0 q0) sp) "append" apos) [e] [] cpos) none epos.line X.env = pure false := by rfl) :
    PSs X (.Expr (.Call (.Attribute (.Subscript (.Name n p0) (.Constant (.int 0) j0 q0) sp) "append" apos) [e] [] cpos) epos :: rest) (tS X.K ca W ρx emb embB out ρ (ma >>= fun d => pushR a d >>= k)) :=
  PSs.of (pss_cons (ps_expr (pe_bm PySem.F.plainAttrs_list PySem.F.slot_list_append PySem.F.type_list_append mt_append (pe_ix ix_seq (pe_var hN hv hd hcd) pe_int hix) (pa_cons he pa_nil hs) hbase hfew hline hs hplain) hsw) (PSs.any h)) fun D σ H ⟨G, f, E, hq⟩ => by
    obtain ⟨v, hσ, ow⟩ := E.slot i _ ho
    obtain ⟨p, p1, p2, vs1, vs2, rfl, h0, h1, h2, r1, r2, f0, f1, f2, n1, n2, n12⟩ := OwL.two_inv ow
    refine ⟨.ref p, hσ, .inl ⟨_, _, _, .ref p1, rfl, rfl, SqL.of h0, rfl, .inl ⟨rfl, _, SqL.of h1⟩, H, G, hq.expr E le fun d G1 H1 ea g E1 hh w rw' => ?_⟩⟩
    by_cases hz : a.length < 100000
    · rw [pushR_ok hz] at hh
      refine ⟨p1, vs1, w, rfl, rfl, g.h _ _ h1, Nat.lt_of_lt_of_le (by rw [r1.length]; exact hz) (by decide), a ++ [d], ?_⟩
      obtain ⟨f', E2, v2⟩ := two_change E1 ho hσ f1 (mkTwo (by rw [upd_ne n1]; exact g.h _ _ h0) upd_same (by rw [upd_ne (Ne.symm n12)]; exact g.h _ _ h2) ((r1.mono g.g).append (.cons rw' .nil)) (r2.mono g.g) f0 f1 f2 n1 n2 n12)
      exact ⟨G1, f', E2, hh.on v2⟩
    · exact (hh.nb (by unfold pushR; rw [if_neg hz]; rfl)).elim
theorem s_app1 (hN : X.N[i]? = some n) (hv : Vis X.env.scope n) (hd : (n == ("__debug__" : Str)) = false) (hcd : (n == ("__classdict__" : Str)) = false)
    (ho : ρ[i]? = some (some (two a b))) (he : PE X e (tD X.K ca W ρ ma)) (le : Env.le ρx.e ρ) (h : ∀ ys, PSs X rest (tS X.K ca W ρx emb embB out (ρ.set i (some (two a ys))) (k ys)))
    (hix : PlainIx (.Constant (.int 1) j0 q0) := by intro _ _; rfl)
    (hbase : attributeBase (.Subscript (.Name n p0) (.Constant (.int 1) j0 q0) sp) "append" X.env (eval (.Subscript (.Name n p0) (.Constant (.int 1) j0 q0) sp) X.env) = eval (.Subscript (.Name n p0) (.Constant (.int 1) j0 q0) sp) X.env := by rfl)
    (hfew : ((backTo cpos (starEach [e] X.env)).all (fun x => !x.1) && (backToKw cpos (keywordEach [] X.env)).all (fun x => x.1.isSome)
      && decide ([e].length + ([] : List Keyword).length + (if ([] : List Keyword).isEmpty then 0 else 1) < 30)) = true := by rfl)
    (hline : (apos.endLine == cpos.line) = true := by rfl) (hs : starEach [e] X.env = (false, eval e X.env) :: starEach [] X.env := by rfl) (hplain : (backTo cpos (starEach [] X.env)).any (·.1) = false := by rfl)
    (hsw : swapsWith (.Call (.Attribute (.Subscript (.Name n p0) (.Constant (.int 1) j0 q0) sp) "append" apos) [e] [] cpos) none epos.line X.env = pure false := by rfl) :
    PSs X (.Expr (.Call (.Attribute (.Subscript (.Name n p0) (.Constant (.int 1) j0 q0) sp) "append" apos) [e] [] cpos) epos :: rest) (tS X.K ca W ρx emb embB out ρ (ma >>= fun d => pushR b d >>= k)) :=
  PSs.of (pss_cons (ps_expr (pe_bm PySem.F.plainAttrs_list PySem.F.slot_list_append PySem.F.type_list_append mt_append (pe_ix ix_seq (pe_var hN hv hd hcd) pe_int hix) (pa_cons he pa_nil hs) hbase hfew hline hs hplain) hsw) (PSs.any h)) fun D σ H ⟨G, f, E, hq⟩ => by
    obtain ⟨v, hσ, ow⟩ := E.slot i _ ho
    obtain ⟨p, p1, p2, vs1, vs2, rfl, h0, h1, h2, r1, r2, f0, f1, f2, n1, n2, n12⟩ := OwL.two_inv ow
    refine ⟨.ref p, hσ, .inl ⟨_, _, _, .ref p2, rfl, rfl, SqL.of h0, rfl, .inl ⟨rfl, _, SqL.of h2⟩, H, G, hq.expr E le fun d G1 H1 ea g E1 hh w rw' => ?_⟩⟩
    by_cases hz : b.length < 100000
    · rw [pushR_ok hz] at hh
      refine ⟨p2, vs2, w, rfl, rfl, g.h _ _ h2, Nat.lt_of_lt_of_le (by rw [r2.length]; exact hz) (by decide), b ++ [d], ?_⟩
      obtain ⟨f', E2, v2⟩ := two_change E1 ho hσ f2 (mkTwo (by rw [upd_ne n2]; exact g.h _ _ h0) (by rw [upd_ne n12]; exact g.h _ _ h1) upd_same (r1.mono g.g) ((r2.mono g.g).append (.cons rw' .nil)) f0 f1 f2 n1 n2 n12)
      exact ⟨G1, f', E2, hh.on v2⟩
    · exact (hh.nb (by unfold pushR; rw [if_neg hz]; rfl)).elim
theorem s_clr0 (hN : X.N[i]? = some n) (hv : Vis X.env.scope n) (hd : (n == ("__debug__" : Str)) = false) (hcd : (n == ("__classdict__" : Str)) = false)
    (ho : ρ[i]? = some (some (two a b))) (h : PSs X rest (tS X.K ca W ρx emb embB out (ρ.set i (some (two [] b))) M))
    (hix : PlainIx (.Constant (.int 0) j0 q0) := by intro _ _; rfl)
    (hbase : attributeBase (.Subscript (.Name n p0) (.Constant (.int 0) j0 q0) sp) "clear" X.env (eval (.Subscript (.Name n p0) (.Constant (.int 0) j0 q0) sp) X.env) = eval (.Subscript (.Name n p0) (.Constant (.int 0) j0 q0) sp) X.env := by rfl)
    (hline : (apos.endLine == cpos.line) = true := by rfl)
    (hsw : swapsWith (.Call (.Attribute (.Subscript (.Name n p0) (.Constant (.int 0) j0 q0) sp) "clear" apos) [] [] cpos) none epos.line X.env = pure false := by rfl) :
    PSs X (.Expr (.Call (.Attribute (.Subscript (.Name n p0) (.Constant (.int 0) j0 q0) sp) "clear" apos) [] [] cpos) epos :: rest) (tS X.K ca W ρx emb embB out ρ M) :=
  PSs.of (pss_cons (ps_expr (pe_bm0 PySem.F.plainAttrs_list PySem.F.slot_list_clear PySem.F.type_list_clear mt_clear (pe_ix ix_seq (pe_var hN hv hd hcd) pe_int hix) hbase hline) hsw) h) fun D σ H ⟨G, f, E, hq⟩ => by
    obtain ⟨v, hσ, ow⟩ := E.slot i _ ho
    obtain ⟨p, p1, p2, vs1, vs2, rfl, h0, h1, h2, r1, r2, f0, f1, f2, n1, n2, n12⟩ := OwL.two_inv ow
    obtain ⟨f', E2, v2⟩ := two_change E ho hσ f1 (us := []) (mkTwo (by rw [upd_ne n1]; exact h0) upd_same (by rw [upd_ne (Ne.symm n12)]; exact h2) .nil r2 f0 f1 f2 n1 n2 n12)
    exact ⟨.ref p, hσ, .inl ⟨_, _, _, .ref p1, rfl, rfl, SqL.of h0, rfl, .inl ⟨rfl, _, SqL.of h1⟩, p1, vs1, rfl, rfl, h1, G, f', E2, hq.on v2⟩⟩
theorem s_clr1 (hN : X.N[i]? = some n) (hv : Vis X.env.scope n) (hd : (n == ("__debug__" : Str)) = false) (hcd : (n == ("__classdict__" : Str)) = false)
    (ho : ρ[i]? = some (some (two a b))) (h : PSs X rest (tS X.K ca W ρx emb embB out (ρ.set i (some (two a []))) M))
    (hix : PlainIx (.Constant (.int 1) j0 q0) := by intro _ _; rfl)
    (hbase : attributeBase (.Subscript (.Name n p0) (.Constant (.int 1) j0 q0) sp) "clear" X.env (eval (.Subscript (.Name n p0) (.Constant (.int 1) j0 q0) sp) X.env) = eval (.Subscript (.Name n p0) (.Constant (.int 1) j0 q0) sp) X.env := by rfl)
    (hline : (apos.endLine == cpos.line) = true := by rfl)
    (hsw : swapsWith (.Call (.Attribute (.Subscript (.Name n p0) (.Constant (.int 1) j0 q0) sp) "clear" apos) [] [] cpos) none epos.line X.env = pure false := by rfl) :
    PSs X (.Expr (.Call (.Attribute (.Subscript (.Name n p0) (.Constant (.int 1) j0 q0) sp) "clear" apos) [] [] cpos) epos :: rest) (tS X.K ca W ρx emb embB out ρ M) :=
  PSs.of (pss_cons (ps_expr (pe_bm0 PySem.F.plainAttrs_list PySem.F.slot_list_clear PySem.F.type_list_clear mt_clear (pe_ix ix_seq (pe_var hN hv hd hcd) pe_int hix) hbase hline) hsw) h) fun D σ H ⟨G, f, E, hq⟩ => by
    obtain ⟨v, hσ, ow⟩ := E.slot i _ ho
    obtain ⟨p, p1, p2, vs1, vs2, rfl, h0, h1, h2, r1, r2, f0, f1, f2, n1, n2, n12⟩ := OwL.two_inv ow
    obtain ⟨f', E2, v2⟩ := two_change E ho hσ f2 (us := []) (mkTwo (by rw [upd_ne n2]; exact h0) (by rw [upd_ne n12]; exact h1) upd_same r1 .nil f0 f1 f2 n1 n2 n12)
    exact ⟨.ref p, hσ, .inl ⟨_, _, _, .ref p2, rfl, rfl, SqL.of h0, rfl, .inl ⟨rfl, _, SqL.of h2⟩, p2, vs2, rfl, rfl, h2, G, f', E2, hq.on v2⟩⟩
theorem s_rev2 (hN : X.N[i]? = some n) (hv : Vis X.env.scope n) (hd : (n == ("__debug__" : Str)) = false) (hcd : (n == ("__classdict__" : Str)) = false)
    (ho : ρ[i]? = some (some (two a b))) (h : PSs X rest (tS X.K ca W ρx emb embB out (ρ.set i (some (two b a))) M))
    (hbase : attributeBase (.Name n p0) "reverse" X.env (eval (.Name n p0) X.env) = eval (.Name n p0) X.env := by rfl) (hline : (apos.endLine == cpos.line) = true := by rfl)
    (hsw : swapsWith (.Call (.Attribute (.Name n p0) "reverse" apos) [] [] cpos) none epos.line X.env = pure false := by rfl) :
    PSs X (.Expr (.Call (.Attribute (.Name n p0) "reverse" apos) [] [] cpos) epos :: rest) (tS X.K ca W ρx emb embB out ρ M) :=
  PSs.of (pss_cons (ps_expr (pe_bm0 PySem.F.plainAttrs_list PySem.F.slot_list_reverse PySem.F.type_list_reverse mt_reverse (pe_var hN hv hd hcd) hbase hline) hsw) h) fun D σ H ⟨G, f, E, hq⟩ => by
    obtain ⟨v, hσ, ow⟩ := E.slot i _ ho
    obtain ⟨p, p1, p2, vs1, vs2, rfl, h0, h1, h2, r1, r2, f0, f1, f2, n1, n2, n12⟩ := OwL.two_inv ow
    obtain ⟨f', E2, v2⟩ := two_change E ho hσ f0 (us := [.ref p2, .ref p1]) (mkTwo upd_same (by rw [upd_ne (Ne.symm n2)]; exact h2) (by rw [upd_ne (Ne.symm n1)]; exact h1) r2 r1 f0 f2 f1 n2 n1 (Ne.symm n12))
    exact ⟨.ref p, hσ, .inl ⟨rfl, _, SqL.of h0⟩, p, _, rfl, rfl, h0, G, f', E2, hq.on v2⟩
end
end
end Lk
namespace Lk
open PySem PySem.Spec PyProof.Rows L2
def FM1q {β : Type} (m : List D → List D → Res β) : List O → List D → Res β
  | [.ol none xs], ds => m xs ds
  | _, _ => .bug
def FM2q {β : Type} (m : List D → List D → List D → Res β) : List O → List D → Res β
  | [.ol none xs, .ol none ys], ds => m xs ys ds
  | _, _ => .bug
@[simp] theorem FM1q_eq {β : Type} (m : List D → List D → Res β) (xs : List D) (ds : List D) : FM1q m [.ol none xs] ds = m xs ds := rfl
@[simp] theorem FM2q_eq {β : Type} (m : List D → List D → List D → Res β) (xs ys : List D) (ds : List D) : FM2q m [.ol none xs, .ol none ys] ds = m xs ys ds := rfl
theorem FM1q_inv {β : Type} {m : List D → List D → Res β} {os : List O} {ds : List D} {bs : List V} (h : FM1q m os ds ≠ .bug) (l : bs.length = os.length) : ∃ xs b, os = [.ol none xs] ∧ bs = [b] ∧ m xs ds ≠ .bug := by
  unfold FM1q at h
  split at h
  · match bs, l with
    | [b], _ => exact ⟨_, b, rfl, rfl, h⟩
  · exact (h rfl).elim
theorem FM2q_inv {β : Type} {m : List D → List D → List D → Res β} {os : List O} {ds : List D} {bs : List V} (h : FM2q m os ds ≠ .bug) (l : bs.length = os.length) : ∃ xs ys b c, os = [.ol none xs, .ol none ys] ∧ bs = [b, c] ∧ m xs ys ds ≠ .bug := by
  unfold FM2q at h
  split at h
  · match bs, l with
    | [b, c], _ => exact ⟨_, _, b, c, rfl, rfl, h⟩
  · exact (h rfl).elim
theorem FM1q_len {β : Type} {m : List D → List D → Res β} {os : List O} {ds : List D} (h : FM1q m os ds ≠ .bug) : os.length = 1 ∧ ∃ xs, m xs ds ≠ .bug := by
  unfold FM1q at h
  split at h
  · exact ⟨rfl, _, h⟩
  · exact (h rfl).elim
theorem FM2q_len {β : Type} {m : List D → List D → List D → Res β} {os : List O} {ds : List D} (h : FM2q m os ds ≠ .bug) : os.length = 2 ∧ ∃ p : List D × List D, m p.1 p.2 ds ≠ .bug := by
  unfold FM2q at h
  split at h
  · exact ⟨rfl, (_, _), h⟩
  · exact (h rfl).elim
def unq1 {α : Type} (k : List D → Res α) : List O → Res α
  | [.ol none xs] => k xs
  | _ => .bug
def unq2 {α : Type} (k : List D → List D → Res α) : List O → Res α
  | [.ol none xs, .ol none ys] => k xs ys
  | _ => .bug
@[simp] theorem unq1_eq {α : Type} (k : List D → Res α) (xs : List D) : unq1 k [.ol none xs] = k xs := rfl
@[simp] theorem unq2_eq {α : Type} (k : List D → List D → Res α) (xs ys : List D) : unq2 k [.ol none xs, .ol none ys] = k xs ys := rfl
theorem reO_ol (r : Option V) (xs : List D) : reO r (.ol none xs) = .ol r xs := by cases r <;> rfl
section
variable {X : Cx} {ca : Nat → Addr} {W : WX} {ρ : Env} {ρx : EX} {α S S' B T : Type} {emb : S → Env} {emb' : S' → Env} {embB : B → Env} {outR : T → RtP} {out : α → O} {e c : Expr} {pos pos' : Pos} {n : Str} {i j l : Nat} {rest sa sb : List Stmt} {r q : Option V}
theorem unq1_of {st : List Stmt} {k : List D → Res (Out S' B T)} (F : Env → Env) (h : ∀ xs, PSs X st (tS X.K ca W ρx emb' embB outR (F (ρ.set j (some (.ol r xs)))) (k xs))) : ∀ os, PSs X st (tS X.K ca W ρx emb' embB outR (F (putS ρ [j] [r] os)) (unq1 k os)) := by
  intro os
  unfold unq1
  split
  · rename_i xs
    have := h xs
    rw [← reO_ol] at this
    exact this
  · exact ps_bug
theorem unq2_of {st : List Stmt} {k : List D → List D → Res (Out S' B T)} (F : Env → Env) (h : ∀ xs ys, PSs X st (tS X.K ca W ρx emb' embB outR (F ((ρ.set l (some (.ol q ys))).set j (some (.ol r xs)))) (k xs ys))) : ∀ os, PSs X st (tS X.K ca W ρx emb' embB outR (F (putS ρ [j, l] [r, q] os)) (unq2 k os)) := by
  intro os
  unfold unq2
  split
  · rename_i xs ys
    have := h xs ys
    rw [← reO_ol r xs, ← reO_ol q ys] at this
    exact this
  · exact ps_bug
theorem s_setXq1 {M : Res (EO α (List O))} {k : α → List D → Res (Out S' B T)} (hN : X.N.Nodup) (hi : X.N[i]? = some n) (hx : Loc X.env.scope n) (he : PE X e (tX X.K ca W ρx (putS ρ [j] [r]) out ρ M))
    (h : ∀ a xs, PSs X rest (tS X.K ca W ρx emb' embB outR ((ρ.set j (some (.ol r xs))).set i (some (out a))) (k a xs))) (hs : swapsWith e (some (.Name n pos')) pos.line X.env = pure false := by rfl)
    (hf : X.fn n = true ∨ X.env.scope.names.lookup n = some .local := by first | exact .inl rfl | exact .inr rfl | assumption) : PSs X (.Assign [.Name n pos'] e pos :: rest) (tS X.K ca W ρx emb' embB outR ρ (M >>= EO.to fun a os => unq1 (k a) os)) :=
  s_setX hN hi hx he (fun a => unq1_of (fun ρ => ρ.set i (some (out a))) (h a)) hs hf
theorem s_setXq2 {M : Res (EO α (List O))} {k : α → List D → List D → Res (Out S' B T)} (hN : X.N.Nodup) (hi : X.N[i]? = some n) (hx : Loc X.env.scope n) (he : PE X e (tX X.K ca W ρx (putS ρ [j, l] [r, q]) out ρ M))
    (h : ∀ a xs ys, PSs X rest (tS X.K ca W ρx emb' embB outR (((ρ.set l (some (.ol q ys))).set j (some (.ol r xs))).set i (some (out a))) (k a xs ys))) (hs : swapsWith e (some (.Name n pos')) pos.line X.env = pure false := by rfl)
    (hf : X.fn n = true ∨ X.env.scope.names.lookup n = some .local := by first | exact .inl rfl | exact .inr rfl | assumption) : PSs X (.Assign [.Name n pos'] e pos :: rest) (tS X.K ca W ρx emb' embB outR ρ (M >>= EO.to fun a os => unq2 (k a) os)) :=
  s_setX hN hi hx he (fun a => unq2_of (fun ρ => ρ.set i (some (out a))) (h a)) hs hf
theorem xb_val {M : Res (EO D S)} (h : PE X e (tX X.K ca W ρx emb O.d ρ M)) (he : ∀ whole, isTrue e X.env whole = (do let v ← whole; standAt e.pos; holding [v] (truthy v)) := by intro _; rfl) : PT X e (tXB X.K ca W ρx emb ρ (M >>= EO.then_ fun a s => D.toB a >>= fun b => .ok (.va b s))) :=
  PT.of (pt_truth h he) fun σ H Q ⟨G, f, E, z⟩ => ⟨G, f, E, ⟨fun z1 => z.nb (by rw [z1]; rfl), fun a s ea G' H' f' g v ev E1 ow fr => by
    cases a with
    | bl k =>
      have rv : R X.K ca G' v (.bl k) := by cases ow with | d h => exact h
      cases rv
      exact ⟨k, rfl, z.va k s (by rw [ea]; rfl) G' H' f' (ev.less fun x z => .inl z) E1⟩
    | _ => exact (z.nb (by rw [ea]; rfl)).elim, fun c ec G' H' f' v E1 => z.ex c (by rw [ec]; rfl) G' H' f' v E1, fun c os ec G' H' f' v E1 => z.ra c os (by rw [ec]; rfl) G' H' f' v E1⟩⟩
theorem xb_not {M : Res (EO Bool S)} (h : PT X e (tXB X.K ca W ρx emb ρ M)) : PT X (.UnaryOp .Not e pos) (tXB X.K ca W ρx emb ρ (M >>= EO.then_ fun b s => .ok (.va (!b) s))) :=
  PT.of (pt_not h) fun σ H Q ⟨G, f, E, z⟩ => ⟨G, f, E, ⟨fun z1 => z.nb (by rw [z1]; rfl), fun b s eb G' H' f' ev E1 => z.va (!b) s (by rw [eb]; rfl) G' H' f' ev E1, fun c ec G' H' f' v E1 => z.ex c (by rw [ec]; rfl) G' H' f' v E1, fun c os ec G' H' f' v E1 => z.ra c os (by rw [ec]; rfl) G' H' f' v E1⟩⟩
theorem s_ifxXq1 {M : Res (EO Bool (List O))} {MA : List D → Res (Out Empty B T)} {M2 : List D → Res (Out S' B T)} {nE : Empty → Env} (hc : PT X c (tXB X.K ca W ρx (putS ρ [j] [r]) ρ M)) (ha : ∀ xs, PSs X sa (tS X.K ca W ρx nE embB outR (ρ.set j (some (.ol r xs))) (MA xs))) (h : ∀ xs, PSs X rest (tS X.K ca W ρx emb' embB outR (ρ.set j (some (.ol r xs))) (M2 xs))) :
    PSs X (.If c sa [] pos :: rest) (tS X.K ca W ρx emb' embB outR ρ (M >>= EO.to fun b os => if b then Res.up (unq1 MA os) else unq1 M2 os)) :=
  s_ifxX hc (unq1_of (fun ρ => ρ) ha) (unq1_of (fun ρ => ρ) h)
theorem s_ifxXq2 {M : Res (EO Bool (List O))} {MA : List D → List D → Res (Out Empty B T)} {M2 : List D → List D → Res (Out S' B T)} {nE : Empty → Env} (hc : PT X c (tXB X.K ca W ρx (putS ρ [j, l] [r, q]) ρ M)) (ha : ∀ xs ys, PSs X sa (tS X.K ca W ρx nE embB outR ((ρ.set l (some (.ol q ys))).set j (some (.ol r xs))) (MA xs ys))) (h : ∀ xs ys, PSs X rest (tS X.K ca W ρx emb' embB outR ((ρ.set l (some (.ol q ys))).set j (some (.ol r xs))) (M2 xs ys))) :
    PSs X (.If c sa [] pos :: rest) (tS X.K ca W ρx emb' embB outR ρ (M >>= EO.to fun b os => if b then Res.up (unq2 MA os) else unq2 M2 os)) :=
  s_ifxX hc (unq2_of (fun ρ => ρ) ha) (unq2_of (fun ρ => ρ) h)
end
end Lk
namespace Lk
open PySem PySem.Spec PyProof.Rows L2
abbrev kI (p : Str × V) : Key × V := (Sum.inr p.1, p.2)
def D.getD : D → D → Res D
  | .dic fs, .str k => Res.opt (fs.lookup k)
  | _, _ => .bug
theorem RF.look {K : PySem.W.Frag} {ca : Nat → Addr} {G : Hp} {k : Str} {d : D} : ∀ {fs : List (Str × D)} {fvs : List (Str × V)}, RF K ca G fvs fs → fs.lookup k = some d → ∃ v, valV (fvs.map kI) (Sum.inr k : Key) = some v ∧ R K ca G v d
  | [], _, h, e => by cases e
  | (n, x) :: fs, _, h, e => by
    cases h with
    | @cons _ v vs _ _ h1 h2 =>
      by_cases q : k = n
      · subst q
        rw [List.lookup_cons, beq_self_eq_true] at e
        have e' : some x = some d := e
        cases e'
        exact ⟨v, valV_pos (p := kI (k, v)) rfl, h1⟩
      · have ne : (k == n) = false := beq_eq_false_iff_ne.mpr q
        rw [List.lookup_cons, ne] at e
        obtain ⟨w, hw, rw'⟩ := RF.look h2 e
        refine ⟨w, ?_, rw'⟩
        rw [List.map_cons, valV_neg (p := kI (n, v)) (fun z => q (by injection z with z; exact z.symm))]
        exact hw
theorem RF.zip {K : PySem.W.Frag} {ca : Nat → Addr} {G : Hp} : ∀ {ns : List Str} {vs : List V} {ds : List D}, RL K ca G vs ds → RF K ca G (ns.zip vs) (ns.zip ds)
  | [], _, _, h => by simp; exact .nil
  | n :: ns, _, _, h => by
    cases h with
    | nil => simp; exact .nil
    | cons h1 h2 => exact .cons h1 (RF.zip h2)
section
variable {X : Cx} {ca : Nat → Addr} {W : WX} {ρ : Env} {pos p : Pos} {o v : Expr} {mo mv : Res D} {ms : Res (List D)} {ks : List (Option Expr)} {vs : List Expr} {names : List Str}
/-- d[k] -/
theorem e_getD {ix : Expr} {mi : Res D} (hu : X.A.units + 64 < cLine) (ho : PE X o (tD X.K ca W ρ mo)) (hi : PE X ix (tD X.K ca W ρ mi)) (hs : NoSl ix := by intro _ _; rfl) : PE X (.Subscript o ix pos) (tD X.K ca W ρ (mo >>= fun x => mi >>= fun y => D.getD x y)) :=
  PE.of (pe_dget (by omega) ho hi hs) fun σ H Q ⟨Hb, G, h⟩ => ⟨Hb, G, h.cut fun x G1 H1 _ g1 h1 v rv => ⟨Hb, G1, h1.cut fun y G2 H2 ey g2 h2 w rw' => by
    cases x with
    | dic fs =>
      cases y with
      | str k =>
        cases rw'
        cases hl : fs.lookup k with
        | none => exact (h2.nb (by show Res.opt (fs.lookup k) = _; rw [hl]; rfl)).elim
        | some d =>
          cases rv with
          | dic q1 q2 =>
            obtain ⟨v, hv, rv'⟩ := RF.look q2 hl
            refine ⟨_, v, rfl, ?_, ?_⟩
            · rw [← hv]
              exact DGet.k (k := Sum.inr k) (h2.sub _ _ (g2.g _ _ q1))
            · exact h2.ok d (by show Res.opt (fs.lookup k) = _; rw [hl]; rfl) G2 H2 (.refl h2.sub) v (rv'.mono g2.g)
      | _ => exact (h2.nb rfl).elim
    | _ => exact (h2.nb (by cases y <;> rfl)).elim⟩⟩
/-- the pairs of a display -/
def PD (X : Cx) (ca : Nat → Addr) (W : WX) (ρ : Env) (pos : Pos) (ks : List (Option Expr)) (vs : List Expr) (names : List Str) (ms : Res (List D)) : Prop :=
  (∀ ds, ms = .ok ds → ds.length = names.length) ∧ ∃ trs, PPs X pos ks vs trs ∧ ∀ σ H Q, (∃ Hb G, Cr X.K ca W ρ σ Hb G H ms fun ds G' H' => ∀ us, RL X.K ca G' us ds → Q ((names.zip us).map fun p => (V.str p.1, p.2)) H') → tPairs trs σ H Q
theorem pd_nil : PD X ca W ρ pos [] [] [] (.ok []) := ⟨fun ds e => by cases e; rfl, [], pps_nil, fun σ H Q ⟨Hb, G, h⟩ => h.done [] .nil⟩
theorem pd_cons {n : Str} {j : Nat} (hv : PE X v (tD X.K ca W ρ mv)) (hr : PD X ca W ρ pos ks vs names ms) :
    PD X ca W ρ pos (some (.Constant (.str n) j p) :: ks) (v :: vs) (n :: names) (mv >>= fun x => ms >>= fun xs => .ok (x :: xs)) := by
  obtain ⟨hl, trs, h1, h2⟩ := hr
  refine ⟨fun ds e => ?_, _, pps_cons (e_str (X := X) (ca := ca) (W := W) (ρ := ρ) (x := n)) hv h1, fun σ H Q ⟨Hb, G, h⟩ => ?_⟩
  · cases mv with
    | ok x =>
      cases ms with
      | ok xs =>
        have e' : Res.ok (x :: xs) = Res.ok ds := e
        cases e'
        simp [hl xs rfl]
      | exc c => cases e
      | bug => cases e
    | exc c => cases e
    | bug => cases e
  · exact ⟨Hb, G, (show Cr X.K ca W ρ σ Hb G H ((Res.ok (D.str n)) >>= fun _ => mv >>= fun x => ms >>= fun xs => .ok (x :: xs)) _ from h).cut fun y G1 H1 ey g1 c1 w rw' => by
      cases ey
      cases rw'
      exact ⟨Hb, G1, c1.cut fun x G2 H2 _ g2 c2 v rv => h2 σ H2 _ ⟨Hb, G2, c2.cut fun xs G3 H3 _ g3 c3 us rus => c3.done (v :: us) (.cons (rv.mono g3.g) rus)⟩⟩⟩
theorem putK_snoc {kvs : List (Key × V)} {k : Key} {v : V} (h : ∀ p ∈ kvs, p.1 ≠ k) : putK kvs k v = kvs ++ [(k, v)] := by
  unfold putK
  rw [if_neg]
  simp only [List.any_eq_true, decide_eq_true_eq, not_exists, not_and]
  exact h
theorem mergeK_nodup : ∀ (more acc : List (Key × V)), (∀ p ∈ acc, ∀ q ∈ more, p.1 ≠ q.1) → (more.map (·.1)).Nodup → mergeK acc more = acc ++ more
  | [], acc, _, _ => by simp [mergeK]
  | q :: more, acc, h, hn => by
    rw [List.map_cons, List.nodup_cons] at hn
    have e : mergeK acc (q :: more) = mergeK (putK acc q.1 q.2) more := rfl
    rw [e, putK_snoc (fun p hp => h p hp q List.mem_cons_self), mergeK_nodup more _ (fun p hp r hr => ?_) hn.2]
    · simp
    · rcases List.mem_append.mp hp with z | z
      · exact h p z r (List.mem_cons_of_mem _ hr)
      · rw [List.mem_singleton.mp z]
        intro ne
        exact hn.1 (List.mem_map.mpr ⟨r, hr, ne.symm⟩)
theorem zip_keys {names : List Str} : ∀ {us : List V}, ((names.zip us).map kI).map (·.1) = ((names.zip us).map (·.1)).map Sum.inr := by
  intro us
  rw [List.map_map, List.map_map]
  rfl
theorem inr_nodup : ∀ {xs : List Str}, xs.Nodup → (xs.map (Sum.inr : Str → Key)).Nodup
  | [], _ => by simp
  | x :: xs, h => by
    rw [List.nodup_cons] at h
    rw [List.map_cons, List.nodup_cons]
    refine ⟨fun z => ?_, inr_nodup h.2⟩
    obtain ⟨y, hy, e⟩ := List.mem_map.mp z
    cases e
    exact h.1 hy
theorem zip_fst : ∀ {names : List Str} {us : List V}, us.length = names.length → (names.zip us).map (·.1) = names
  | [], [], _ => rfl
  | n :: ns, u :: us, h => by
    have := zip_fst (names := ns) (us := us) (by simpa using h)
    simp only [List.zip_cons_cons, List.map_cons, this]
  | [], _ :: _, h => by simp at h
  | _ :: _, [], h => by simp at h
theorem e_dic (h : PD X ca W ρ pos ks vs names ms) (hall : ks.all (·.isSome) = true := by rfl) (hl : ks.length = vs.length := by rfl) (h0 : ks ≠ [] := by simp) (h15 : ks.length ≤ 15 := by decide) (hn : names.Nodup := by decide +kernel) (hn2 : names.length ≤ 15 := by decide) :
    PE X (.Dict ks vs pos) (tD X.K ca W ρ (ms >>= fun xs => .ok (.dic (names.zip xs)))) := by
  obtain ⟨len, trs, h1, h2⟩ := h
  refine PE.of (pe_disp h1 hall hl h0 h15) fun σ H Q ⟨Hb, G, c⟩ p hp => ?_
  obtain ⟨f, E, hf⟩ := c.env
  have hbp : Hb p = none := by
    cases z : Hb p with
    | none => rfl
    | some u => rw [c.sb _ _ z] at hp; cases hp
  have gp : G p = none := by
    cases z : G p with
    | none => rfl
    | some u => rw [E.sub _ _ z] at hp; cases hp
  have s0 : Same H (upd H p (.dK [])) := fun a u z => by
    rw [upd_ne (fun q => by rw [q, hp] at z; cases z)]; exact z
  have g0 : Gb Hb G H G (upd H p (.dK [])) := ⟨Same.refl _, E.sub.trans s0, s0, fun a u z => .inl z⟩
  have sb' : Same (upd Hb p (.dK [])) (upd H p (.dK [])) := fun a u z => by
    by_cases q : a = p
    · subst q; rw [upd_same] at z ⊢; exact z
    · rw [upd_ne q] at z ⊢; exact c.sb _ _ z
  have conv : ∀ {G1 H1 : Hp}, Gb (upd Hb p (.dK [])) G (upd H p (.dK [])) G1 H1 → Gb Hb G H G1 H1 := fun {G1 H1} g => ⟨g.g, g.sub, s0.trans g.h, fun a u z => (g.new a u z).elim .inl fun q => .inr (by
    by_cases e : a = p
    · rw [e]; exact hbp
    · rw [upd_ne e] at q; exact q)⟩
  refine h2 σ _ _ ⟨upd Hb p (.dK []), G, ⟨sb', ⟨f, E.gb hf g0, fun i a z => ?_⟩, fun z => c.nb (by rw [z]; rfl), fun ds e G1 H1 g1 us rus => ?_, fun cc e G1 H1 g1 => c.ex cc (by rw [e]; rfl) G1 H1 (conv g1)⟩⟩
  · obtain ⟨u, q⟩ := hf i a z
    exact ⟨u, by rw [upd_ne (fun q2 => by rw [q2, hbp] at q; cases q)]; exact q⟩
  · have hp1 : H1 p = some (.dK []) := g1.h _ _ upd_same
    have lu : us.length = names.length := by rw [rus.length, len ds e]
    have ek : mergeK [] ((names.zip us).map kI) = (names.zip us).map kI := by
      rw [mergeK_nodup _ _ (fun p hp => by cases hp) (by rw [zip_keys, zip_fst lu]; exact inr_nodup hn)]
      rfl
    have g1p : G1 p = none := by
      cases z : G1 p with
      | none => rfl
      | some u =>
        rcases g1.new p u z with q | q
        · rw [gp] at q; cases q
        · rw [upd_same] at q; cases q
    refine ⟨hp1, (names.zip us).map kI, by rw [List.map_map]; rfl, by rw [List.length_map, List.length_zip]; omega, ?_⟩
    rw [ek]
    have sG : Same G1 (upd G1 p (.dK ((names.zip us).map kI))) := fun a u z => by
      rw [upd_ne (fun q => by rw [q, g1p] at z; cases z)]; exact z
    refine c.ok (.dic (names.zip ds)) (by rw [e]; rfl) (upd G1 p (.dK ((names.zip us).map kI))) _ ⟨g1.g.trans sG, fun a u z => ?_, fun a u z => ?_, fun a u z => ?_⟩ (.ref p) (.dic upd_same ((RF.zip rus).mono sG))
    · by_cases q : a = p
      · subst q; rw [upd_same] at z ⊢; exact z
      · rw [upd_ne q] at z ⊢; exact g1.sub _ _ z
    · have ne : a ≠ p := fun q => by rw [q, hp] at z; cases z
      rw [upd_ne ne]
      exact g1.h _ _ (s0 _ _ z)
    · by_cases q : a = p
      · exact .inr (by rw [q]; exact hbp)
      · rw [upd_ne q] at z
        exact (conv g1).new a u z
end
end Lk
namespace Lk
open PySem PySem.Spec PyProof.Rows L2
/-! ### paths -/
inductive Stp where
  | f (n : Str)
  | i (k : Nat)
mutual
def O.at : O → List Stp → Option O
  | o, [] => some o
  | .oi _ fs, .f n :: π => O.atF fs n π
  | .oL xs, .i k :: π => O.atL xs k π
  | _, _ :: _ => none
def O.atF : List (Str × O) → Str → List Stp → Option O
  | [], _, _ => none
  | (m, x) :: r, n, π => if n == m then O.at x π else O.atF r n π
def O.atL : List O → Nat → List Stp → Option O
  | [], _, _ => none
  | x :: _, 0, π => O.at x π
  | _ :: r, k + 1, π => O.atL r k π
end
mutual
def O.put (w : O) : O → List Stp → O
  | _, [] => w
  | .oi c fs, .f n :: π => .oi c (O.putF w fs n π)
  | .oL xs, .i k :: π => .oL (O.putL w xs k π)
  | o, _ :: _ => o
def O.putF (w : O) : List (Str × O) → Str → List Stp → List (Str × O)
  | [], _, _ => []
  | (m, x) :: r, n, π => if n == m then (m, O.put w x π) :: r else (m, x) :: O.putF w r n π
def O.putL (w : O) : List O → Nat → List Stp → List O
  | [], _, _ => []
  | x :: r, 0, π => O.put w x π :: r
  | x :: r, k + 1, π => x :: O.putL w r k π
end
/-- the value at a path -/
def valAt (H : Hp) : V → List Stp → Option V
  | v, [] => some v
  | .ref p, .f n :: π => match H p with
    | some (.ins _ _ fs) => (fs.lookup n).bind fun w => valAt H w π
    | _ => none
  | .ref p, .i k :: π => match H p with
    | some (.lst vs) => (vs[k]?).bind fun w => valAt H w π
    | _ => none
  | _, _ :: _ => none
theorem valAt_nil {H : Hp} {v : V} : valAt H v [] = some v := by unfold valAt; rfl
theorem valAt_f {H : Hp} {p C dx : Addr} {fs : List (Str × V)} {n : Str} {w : V} {π : List Stp} (h : H p = some (.ins C dx fs)) (l : fs.lookup n = some w) : valAt H (.ref p) (.f n :: π) = valAt H w π := by
  show (match H p with
    | some (.ins _ _ fs) => (fs.lookup n).bind fun w => valAt H w π
    | _ => none) = _
  rw [h]
  show (fs.lookup n).bind _ = _
  rw [l]
  rfl
theorem valAt_i {H : Hp} {p : Addr} {vs : List V} {k : Nat} {w : V} {π : List Stp} (h : H p = some (.lst vs)) (l : vs[k]? = some w) : valAt H (.ref p) (.i k :: π) = valAt H w π := by
  show (match H p with
    | some (.lst vs) => (vs[k]?).bind fun w => valAt H w π
    | _ => none) = _
  rw [h]
  show (vs[k]?).bind _ = _
  rw [l]
  rfl
theorem valAt_app {H : Hp} {s : Stp} : ∀ {π : List Stp} {v w : V}, valAt H v π = some w → valAt H v (π ++ [s]) = valAt H w [s]
  | [], v, w, h => by
    have e : v = w := by simpa [valAt] using h
    subst e
    rfl
  | .f n :: π, .ref p, w, h => by
    cases q : H p with
    | none => simp [valAt, q] at h
    | some o =>
      cases o with
      | ins C dx fs =>
        cases l : fs.lookup n with
        | none => simp [valAt, q, l] at h
        | some u =>
          rw [valAt_f q l] at h
          rw [List.cons_append, valAt_f q l]
          exact valAt_app h
      | _ => simp [valAt, q] at h
  | .i k :: π, .ref p, w, h => by
    cases q : H p with
    | none => simp [valAt, q] at h
    | some o =>
      cases o with
      | lst vs =>
        cases l : vs[k]? with
        | none => simp [valAt, q, l] at h
        | some u =>
          rw [valAt_i q l] at h
          rw [List.cons_append, valAt_i q l]
          exact valAt_app h
      | _ => simp [valAt, q] at h
  | s :: π, .non, w, h => by simp [valAt] at h
  | s :: π, .bl _, w, h => by simp [valAt] at h
  | s :: π, .int _, w, h => by simp [valAt] at h
  | s :: π, .str _, w, h => by simp [valAt] at h
  | s :: π, .byt _, w, h => by simp [valAt] at h
  | s :: π, .flt _, w, h => by simp [valAt] at h
  | s :: π, .ty _, w, h => by simp [valAt] at h
theorem valAt_mono {H H' : Hp} (e : Same H H') : ∀ {π : List Stp} {v w : V}, valAt H v π = some w → valAt H' v π = some w
  | [], v, w, h => by simpa [valAt] using h
  | .f n :: π, .ref p, w, h => by
    cases q : H p with
    | none => simp [valAt, q] at h
    | some o =>
      cases o with
      | ins C dx fs =>
        cases l : fs.lookup n with
        | none => simp [valAt, q, l] at h
        | some u =>
          rw [valAt_f q l] at h
          rw [valAt_f (e _ _ q) l]
          exact valAt_mono e h
      | _ => simp [valAt, q] at h
  | .i k :: π, .ref p, w, h => by
    cases q : H p with
    | none => simp [valAt, q] at h
    | some o =>
      cases o with
      | lst vs =>
        cases l : vs[k]? with
        | none => simp [valAt, q, l] at h
        | some u =>
          rw [valAt_i q l] at h
          rw [valAt_i (e _ _ q) l]
          exact valAt_mono e h
      | _ => simp [valAt, q] at h
  | s :: π, .non, w, h => by simp [valAt] at h
  | s :: π, .bl _, w, h => by simp [valAt] at h
  | s :: π, .int _, w, h => by simp [valAt] at h
  | s :: π, .str _, w, h => by simp [valAt] at h
  | s :: π, .byt _, w, h => by simp [valAt] at h
  | s :: π, .flt _, w, h => by simp [valAt] at h
  | s :: π, .ty _, w, h => by simp [valAt] at h
section
variable {K : PySem.W.Frag} {ca : Nat → Addr} {G H : Hp}
/-- the part's own footprint F1; what comes when the part is another one, in a heap that is the same elsewhere -/
def Foc (K : PySem.W.Frag) (ca : Nat → Addr) (G H : Hp) (F F1 : AS) (v1 : V) (P : Hp → Hp → O → AS → Prop) : Prop :=
  ∀ (G' H' : Hp) (w : O) (F1' : AS), Same G G' → (∀ a u, F a → ¬ F1 a → H a = some u → H' a = some u) → Ow K ca G' H' v1 w F1' → (∀ a, F1' a → F1 a ∨ ¬ F a) → P G' H' w (fun a => (F a ∧ ¬ F1 a) ∨ F1' a)
mutual
theorem Ow.focus : ∀ {π : List Stp} {o o1 : O} {v : V} {F : AS}, Ow K ca G H v o F → O.at o π = some o1 → ∃ v1 F1, valAt H v π = some v1 ∧ Ow K ca G H v1 o1 F1 ∧ (∀ a, F1 a → F a) ∧
    Foc K ca G H F F1 v1 fun G' H' w F' => Ow K ca G' H' v (O.put w o π) F'
  | [], o, o1, v, F, h, e => by
    have e' : o = o1 := by cases o <;> simpa [O.at] using e
    subst e'
    refine ⟨v, F, valAt_nil, h, fun _ z => z, fun G' H' w F1' _ _ ow _ => ?_⟩
    have e2 : O.put w o [] = w := by cases o <;> simp [O.put]
    show Ow K ca G' H' v (O.put w o []) _
    rw [e2]
    exact ow.wide fun a z => .inr z
  | .f n :: π, .oi c fs, o1, v, F, h, e => by
    have e' : O.atF fs n π = some o1 := by simpa [O.at] using e
    cases h with
    | @oi p dx _ fvs _ _ F' h1 h2 h3 h4 h5 =>
      obtain ⟨u, v1, F1, l, q1, q2, q3, q4⟩ := OwF.focus h3 e'
      refine ⟨v1, F1, by rw [valAt_f h1 l]; exact q1, q2, fun a z => h5 a (q3 a z), fun G' H' w F1' s k ow fr => ?_⟩
      have np : ¬ F1 p := fun z => h4 (q3 p z)
      have e2 : O.put w (.oi c fs) (.f n :: π) = .oi c (O.putF w fs n π) := by simp [O.put]
      show Ow K ca G' H' (.ref p) (O.put w (.oi c fs) (.f n :: π)) _
      rw [e2]
      refine .oi (k p _ h2 np h1) (.inl ⟨h2, np⟩) (q4 G' H' w F1' s (fun a u fa nf z => k a u (h5 a fa) nf z) ow fun a z => (fr a z).elim .inl fun z => .inr fun y => z (h5 a y)) (fun z => ?_) fun a z => z.elim (fun z => .inl ⟨h5 a z.1, z.2⟩) .inr
      rcases z with z | z
      · exact h4 z.1
      · rcases fr p z with y | y
        · exact np y
        · exact y h2
  | .i k :: π, .oL xs, o1, v, F, h, e => by
    have e' : O.atL xs k π = some o1 := by simpa [O.at] using e
    cases h with
    | @oL p vs _ _ F' h1 h2 h3 h4 h5 =>
      obtain ⟨u, v1, F1, l, q1, q2, q3, q4⟩ := OwL.focus h3 e'
      refine ⟨v1, F1, by rw [valAt_i h1 l]; exact q1, q2, fun a z => h5 a (q3 a z), fun G' H' w F1' s kk ow fr => ?_⟩
      have np : ¬ F1 p := fun z => h4 (q3 p z)
      have e2 : O.put w (.oL xs) (.i k :: π) = .oL (O.putL w xs k π) := by simp [O.put]
      show Ow K ca G' H' (.ref p) (O.put w (.oL xs) (.i k :: π)) _
      rw [e2]
      refine .oL (kk p _ h2 np h1) (.inl ⟨h2, np⟩) (q4 G' H' w F1' s (fun a u fa nf z => kk a u (h5 a fa) nf z) ow fun a z => (fr a z).elim .inl fun z => .inr fun y => z (h5 a y)) (fun z => ?_) fun a z => z.elim (fun z => .inl ⟨h5 a z.1, z.2⟩) .inr
      rcases z with z | z
      · exact h4 z.1
      · rcases fr p z with y | y
        · exact np y
        · exact y h2
  | .f n :: π, .d _, _, _, _, _, e => by simp [O.at] at e
  | .f n :: π, .ol _ _, _, _, _, _, e => by simp [O.at] at e
  | .f n :: π, .oL _, _, _, _, _, e => by simp [O.at] at e
  | .f n :: π, .ot _, _, _, _, _, e => by simp [O.at] at e
  | .f n :: π, .od _, _, _, _, _, e => by simp [O.at] at e
  | .f n :: π, .pin _ _, _, _, _, _, e => by simp [O.at] at e
  | .f n :: π, .raw _, _, _, _, _, e => by simp [O.at] at e
  | .i n :: π, .d _, _, _, _, _, e => by simp [O.at] at e
  | .i n :: π, .ol _ _, _, _, _, _, e => by simp [O.at] at e
  | .i n :: π, .oi _ _, _, _, _, _, e => by simp [O.at] at e
  | .i n :: π, .ot _, _, _, _, _, e => by simp [O.at] at e
  | .i n :: π, .od _, _, _, _, _, e => by simp [O.at] at e
  | .i n :: π, .pin _ _, _, _, _, _, e => by simp [O.at] at e
  | .i n :: π, .raw _, _, _, _, _, e => by simp [O.at] at e
theorem OwF.focus : ∀ {fs : List (Str × O)} {n : Str} {π : List Stp} {o1 : O} {vs : List (Str × V)} {F : AS}, OwF K ca G H vs fs F → O.atF fs n π = some o1 → ∃ u v1 F1, vs.lookup n = some u ∧ valAt H u π = some v1 ∧ Ow K ca G H v1 o1 F1 ∧ (∀ a, F1 a → F a) ∧
    Foc K ca G H F F1 v1 fun G' H' w F' => OwF K ca G' H' vs (O.putF w fs n π) F'
  | [], n, π, o1, vs, F, h, e => by simp [O.atF] at e
  | (m, x) :: r, n, π, o1, _, F, h, e => by
    cases h with
    | @cons _ v vs _ _ _ Fa Fb h1 h2 h3 h4 h5 =>
      by_cases q : (n == m) = true
      · have e' : O.at x π = some o1 := by simpa [O.atF, q] using e
        obtain ⟨v1, F1, q1, q2, q3, q4⟩ := Ow.focus h1 e'
        refine ⟨v, v1, F1, by rw [List.lookup_cons, q], q1, q2, fun a z => h4 a (q3 a z), fun G' H' w F1' s k ow fr => ?_⟩
        have e2 : O.putF w ((m, x) :: r) n π = (m, O.put w x π) :: r := by simp [O.putF, q]
        show OwF K ca G' H' ((m, v) :: vs) (O.putF w ((m, x) :: r) n π) _
        rw [e2]
        refine .cons (q4 G' H' w F1' s (fun a u fa nf z => k a u (h4 a fa) nf z) ow fun a z => (fr a z).elim .inl fun z => .inr fun y => z (h4 a y)) (h2.mono s fun a u fa z => k a u (h5 a fa) (fun y => h3 a (q3 a y) fa) z) (fun a z y => ?_) (fun a z => z.elim (fun z => .inl ⟨h4 a z.1, z.2⟩) .inr) fun a z => .inl ⟨h5 a z, fun y => h3 a (q3 a y) z⟩
        rcases z with z | z
        · exact h3 a z.1 y
        · rcases fr a z with t | t
          · exact h3 a (q3 a t) y
          · exact t (h5 a y)
      · have q' : (n == m) = false := by simpa using q
        have e' : O.atF r n π = some o1 := by simpa [O.atF, q'] using e
        obtain ⟨u, v1, F1, l, q1, q2, q3, q4⟩ := OwF.focus h2 e'
        refine ⟨u, v1, F1, by rw [List.lookup_cons, q']; exact l, q1, q2, fun a z => h5 a (q3 a z), fun G' H' w F1' s k ow fr => ?_⟩
        have e2 : O.putF w ((m, x) :: r) n π = (m, x) :: O.putF w r n π := by simp [O.putF, q']
        show OwF K ca G' H' ((m, v) :: vs) (O.putF w ((m, x) :: r) n π) _
        rw [e2]
        refine .cons (h1.mono s fun a u fa z => k a u (h4 a fa) (fun y => h3 a fa (q3 a y)) z) (q4 G' H' w F1' s (fun a u fa nf z => k a u (h5 a fa) nf z) ow fun a z => (fr a z).elim .inl fun z => .inr fun y => z (h5 a y)) (fun a y z => ?_) (fun a z => .inl ⟨h4 a z, fun y => h3 a z (q3 a y)⟩) fun a z => z.elim (fun z => .inl ⟨h5 a z.1, z.2⟩) .inr
        rcases z with z | z
        · exact h3 a y z.1
        · rcases fr a z with t | t
          · exact h3 a y (q3 a t)
          · exact t (h4 a y)
theorem OwL.focus : ∀ {xs : List O} {k : Nat} {π : List Stp} {o1 : O} {vs : List V} {F : AS}, OwL K ca G H vs xs F → O.atL xs k π = some o1 → ∃ u v1 F1, vs[k]? = some u ∧ valAt H u π = some v1 ∧ Ow K ca G H v1 o1 F1 ∧ (∀ a, F1 a → F a) ∧
    Foc K ca G H F F1 v1 fun G' H' w F' => OwL K ca G' H' vs (O.putL w xs k π) F'
  | [], k, π, o1, vs, F, h, e => by simp [O.atL] at e
  | x :: r, 0, π, o1, _, F, h, e => by
    cases h with
    | @cons v vs _ _ _ Fa Fb h1 h2 h3 h4 h5 =>
      have e' : O.at x π = some o1 := by simpa [O.atL] using e
      obtain ⟨v1, F1, q1, q2, q3, q4⟩ := Ow.focus h1 e'
      refine ⟨v, v1, F1, rfl, q1, q2, fun a z => h4 a (q3 a z), fun G' H' w F1' s k ow fr => ?_⟩
      have e2 : O.putL w (x :: r) 0 π = O.put w x π :: r := by simp [O.putL]
      show OwL K ca G' H' (v :: vs) (O.putL w (x :: r) 0 π) _
      rw [e2]
      refine .cons (q4 G' H' w F1' s (fun a u fa nf z => k a u (h4 a fa) nf z) ow fun a z => (fr a z).elim .inl fun z => .inr fun y => z (h4 a y)) (h2.mono s fun a u fa z => k a u (h5 a fa) (fun y => h3 a (q3 a y) fa) z) (fun a z y => ?_) (fun a z => z.elim (fun z => .inl ⟨h4 a z.1, z.2⟩) .inr) fun a z => .inl ⟨h5 a z, fun y => h3 a (q3 a y) z⟩
      rcases z with z | z
      · exact h3 a z.1 y
      · rcases fr a z with t | t
        · exact h3 a (q3 a t) y
        · exact t (h5 a y)
  | x :: r, k + 1, π, o1, _, F, h, e => by
    cases h with
    | @cons v vs _ _ _ Fa Fb h1 h2 h3 h4 h5 =>
      have e' : O.atL r k π = some o1 := by simpa [O.atL] using e
      obtain ⟨u, v1, F1, l, q1, q2, q3, q4⟩ := OwL.focus h2 e'
      refine ⟨u, v1, F1, by simpa using l, q1, q2, fun a z => h5 a (q3 a z), fun G' H' w F1' s kk ow fr => ?_⟩
      have e2 : O.putL w (x :: r) (k + 1) π = x :: O.putL w r k π := by simp [O.putL]
      show OwL K ca G' H' (v :: vs) (O.putL w (x :: r) (k + 1) π) _
      rw [e2]
      refine .cons (h1.mono s fun a u fa z => kk a u (h4 a fa) (fun y => h3 a fa (q3 a y)) z) (q4 G' H' w F1' s (fun a u fa nf z => kk a u (h5 a fa) nf z) ow fun a z => (fr a z).elim .inl fun z => .inr fun y => z (h5 a y)) (fun a y z => ?_) (fun a z => .inl ⟨h4 a z, fun y => h3 a z (q3 a y)⟩) fun a z => z.elim (fun z => .inl ⟨h5 a z.1, z.2⟩) .inr
      rcases z with z | z
      · exact h3 a y z.1
      · rcases fr a z with t | t
        · exact h3 a y (q3 a t)
        · exact t (h4 a y)
end
variable {σ : L2.St} {ρ : Env} {f : Nat → AS} {i : Nat} {r : Option V} {o o1 : O} {π : List Stp}
/-- a part of the tree at a slot -/
theorem EnvOk.foc (E : EnvOk K ca G H σ ρ f) (ho : ρ[i]? = some (some (reO r o))) (ha : O.at o π = some o1) : ∃ v v1 F1, σ[i]? = some (some v) ∧ valAt H v π = some v1 ∧ Ow K ca G H v1 o1 F1 ∧ (∀ a, F1 a → f i a) ∧
    ∀ (G' H' : Hp) (w : O) (F1' : AS), Same G G' → Same G' H' → (∀ a u, G' a = some u → G a = some u ∨ H a = none ∨ F1 a) → (∀ a u, H a = some u → ¬ F1 a → H' a = some u) → Ow K ca G' H' v1 w F1' → (∀ a, F1' a → (F1 a ∨ H a = none) ∧ G' a = none ∧ ∃ u, H' a = some u) →
      EnvOk K ca G' H' σ (ρ.set i (some (reO r (O.put w o π)))) (fun j => if j = i then fun a => (f i a ∧ ¬ F1 a) ∨ F1' a else f j) := by
  obtain ⟨v, hv, ow⟩ := E.slot i _ ho
  obtain ⟨ow, pn⟩ := reO_ow ow
  obtain ⟨v1, F1, q1, q2, q3, q4⟩ := ow.focus ha
  refine ⟨v, v1, F1, hv, q1, q2, q3, fun G' H' w F1' sg s new keep ow1 fr => ?_⟩
  have inH : ∀ {j a}, f j a → ∃ u, H a = some u := fun {j a} z => (E.out j a z).2
  have notF1 : ∀ {j a}, j ≠ i → f j a → ¬ F1 a := fun {j a} ne z y => ne (E.sep j i a z (q3 a y))
  have gN : ∀ {j a}, f j a → ¬ F1 a → G' a = none := fun {j a} z n => by
    cases q : G' a with
    | none => rfl
    | some u =>
      rcases new a u q with y | y | y
      · rw [(E.out j a z).1] at y; cases y
      · obtain ⟨u', hu⟩ := inH z
        rw [hu] at y; cases y
      · exact (n y).elim
  have ap : ∀ {j a}, j ≠ i → f j a → ¬ F1' a := fun {j a} ne z y => by
    rcases (fr a y).1 with t | t
    · exact notF1 ne z t
    · obtain ⟨u', hu⟩ := inH z
      rw [hu] at t; cases t
  refine ⟨s, fun j u hj => ?_, fun j l a h1 h2 => ?_, fun j a h1 => ?_⟩
  · by_cases e : j = i
    · subst e
      have hl : j < (ρ.set j (some (reO r (O.put w o π)))).length := (List.getElem?_eq_some_iff.mp hj).1
      rw [List.length_set] at hl
      rw [List.getElem?_set_self hl] at hj
      cases hj
      refine ⟨v, hv, ?_⟩
      have := ow_reO (q4 G' H' w F1' sg (fun a u fa nf z => keep a u z nf) ow1 fun a z => (fr a z).1.elim .inl fun z => .inr fun y => by
        obtain ⟨u', hu⟩ := inH y
        rw [hu] at z; cases z) pn
      simpa using this
    · rw [List.getElem?_set_ne (Ne.symm e)] at hj
      obtain ⟨x, z1, z2⟩ := E.slot j u hj
      refine ⟨x, z1, ?_⟩
      simp only [e, if_false]
      exact z2.mono sg fun a u' fa z => keep a u' z (notF1 e fa)
  · by_cases e1 : j = i
    · by_cases e2 : l = i
      · rw [e1, e2]
      · simp only [e1, if_true, e2, if_false] at h1 h2
        rcases h1 with h1 | h1
        · exact E.sep j l a (by rw [e1]; exact h1.1) h2
        · exact (ap e2 h2 h1).elim
    · by_cases e2 : l = i
      · simp only [e1, if_false, e2, if_true] at h1 h2
        rcases h2 with h2 | h2
        · exact E.sep j l a h1 (by rw [e2]; exact h2.1)
        · exact (ap e1 h1 h2).elim
      · simp only [e1, if_false, e2] at h1 h2
        exact E.sep j l a h1 h2
  · by_cases e1 : j = i
    · simp only [e1, if_true] at h1
      rcases h1 with h1 | h1
      · refine ⟨gN h1.1 h1.2, ?_⟩
        obtain ⟨u, hu⟩ := inH h1.1
        exact ⟨u, keep a u hu h1.2⟩
      · exact (fr a h1).2
    · simp only [e1, if_false] at h1
      refine ⟨gN h1 (notF1 e1 h1), ?_⟩
      obtain ⟨u, hu⟩ := inH h1
      exact ⟨u, keep a u hu (notF1 e1 h1)⟩
theorem evo_foc {G' H' : Hp} {F1 F1' g : AS} (hF : ∀ a, F1 a → f i a) (ev : Evo G H F1 G' H' (fun x => F1' x ∨ g x)) : Evo G H (All f) G' H' (fun x => All (fun j => if j = i then fun a => (f i a ∧ ¬ F1 a) ∨ F1' a else f j) x ∨ g x) := by
  refine ⟨ev.g, ev.sub, fun a u z n => ev.h a u z fun q => n ⟨i, hF a q⟩, fun a u z => ?_, fun a z => ?_⟩
  · rcases ev.new a u z with q | q | q
    · exact .inl q
    · exact .inr (.inl q)
    · exact .inr (.inr ⟨i, hF a q⟩)
  · rcases z with ⟨j, z⟩ | z
    · by_cases e : j = i
      · simp only [e, if_true] at z
        rcases z with z | z
        · exact .inl ⟨i, z.1⟩
        · exact (ev.own a (.inl z)).elim (fun q => .inl ⟨i, hF a q⟩) .inr
      · simp only [e, if_false] at z
        exact .inl ⟨j, z⟩
    · exact (ev.own a (.inr z)).elim (fun q => .inl ⟨i, hF a q⟩) .inr
end
/-! ### path expressions: x, x.f, x[k] -/
def tP (K : PySem.W.Frag) (ca : Nat → Addr) (W : WX) (ρ : Env) (i : Nat) (m : Res (List Stp)) : TE := fun σ H Q => ∃ Hb G, Cr K ca W ρ σ Hb G H m fun π G' H' => ∀ v v1, σ[i]? = some (some v) → valAt H' v π = some v1 → Q v1 H'
def O.stF (cs : List Nat) (f : Str) (o : O) (π : List Stp) : Res (List Stp) := match O.at o π with
  | some (.oi c fs) => if (cs.contains c && (fs.lookup f).isSome) = true then .ok (π ++ [.f f]) else .bug
  | _ => .bug
def O.stI (o : O) (π : List Stp) (y : D) : Res (List Stp) := match O.at o π, y with
  | some (.oL xs), .int k => (match ixN xs.length k with | some j => .ok (π ++ [.i j]) | none => .bug)
  | _, _ => .bug
def O.dat (o : O) (π : List Stp) : Res D := match O.at o π with
  | some (.d x) => .ok x
  | _ => .bug
def O.lsv (o : O) (π : List Stp) : Res (List D) := match O.at o π with
  | some (.ol _ xs) => .ok xs
  | _ => .bug
section
variable {X : Cx} {ca : Nat → Addr} {W : WX} {ρ : Env} {ρx : EX} {i : Nat} {n : Str} {r : Option V} {o : O} {e b : Expr} {pos p0 : Pos} {mπ : Res (List Stp)} {mb : Res D}
theorem pp_var (hN : X.N[i]? = some n) (hv : Vis X.env.scope n) (hd : (n == ("__debug__" : Str)) = false) (hcd : (n == ("__classdict__" : Str)) = false) (ho : ρ[i]? = some (some o)) : PE X (.Name n p0) (tP X.K ca W ρ i (.ok [])) :=
  PE.of (pe_var hN hv hd hcd) fun σ H Q ⟨Hb, G, h⟩ => by
    obtain ⟨f, E, _⟩ := h.env
    obtain ⟨v, q1, _⟩ := E.slot i _ ho
    exact ⟨v, q1, h.done v v q1 valAt_nil⟩
theorem opt_eq {α : Type} {a b : α} {x : Option α} (h : x = some a) (h2 : x = some b) : a = b := Option.some.inj (h.symm.trans h2)
/-- what is known of the part -/
theorem Cr.foc {α : Type} {K : PySem.W.Frag} {σ : L2.St} {Hb G H : Hp} {m : Res α} {P : α → Hp → Hp → Prop} {o1 : O} {π : List Stp} {v v1 : V} (h : Cr K ca W ρ σ Hb G H m P) (ho : ρ[i]? = some (some (reO r o))) (ha : O.at o π = some o1) (hv : σ[i]? = some (some v)) (hw : valAt H v π = some v1) :
    ∃ F1, Ow K ca G H v1 o1 F1 := by
  obtain ⟨f, E, _⟩ := h.env
  obtain ⟨v', v1', F1, q1, q2, q3, _⟩ := E.foc ho ha
  have e1 := Option.some.inj (opt_eq q1 hv)
  subst e1
  have e2 := opt_eq q2 hw
  subst e2
  exact ⟨F1, q3⟩
theorem pp_fld {cs : List Nat} {f : Str} (he : PE X e (tP X.K ca W ρ i mπ)) (ho : ρ[i]? = some (some (reO r o))) (T : ∀ c, cs.contains c = true → Cls X.K (ca c) ∧ NoAttr X.K (ca c) f) (hb : attributeBase e f X.env (eval e X.env) = eval e X.env := by rfl) :
    PE X (.Attribute e f pos) (tP X.K ca W ρ i (mπ >>= fun π => O.stF cs f o π)) :=
  PE.of (pe_fld he hb) fun σ H Q ⟨Hb, G, h⟩ => ⟨Hb, G, h.cut fun π G1 H1 _ g1 h1 v v1 hv hw => by
    cases ha : O.at o π with
    | none => exact (h1.nb (by simp only [O.stF, ha])).elim
    | some o1 =>
      obtain ⟨F1, ow⟩ := h1.foc ho ha hv hw
      cases o1 with
      | oi c fs =>
        by_cases hc : (cs.contains c && (fs.lookup f).isSome) = true
        · have hc' := Bool.and_eq_true_iff.mp hc
          obtain ⟨w, hw2⟩ := Option.isSome_iff_exists.mp hc'.2
          cases ow with
          | @oi p dx _ fvs _ _ F2 z1 z2 z3 z4 z5 =>
            obtain ⟨u, F3, y1, y2, y3⟩ := z3.get hw2
            refine ⟨p, _, dx, fvs, u, rfl, z1, (T c hc'.1).1, (T c hc'.1).2, y1, h1.ok (π ++ [.f f]) (by simp only [O.stF, ha, if_pos hc]) G1 H1 (.refl h1.sub) v u hv ?_⟩
            rw [valAt_app hw, valAt_f z1 y1, valAt_nil]
        · exact (h1.nb (by simp only [O.stF, ha]; exact if_neg hc)).elim
      | _ => exact (h1.nb (by simp only [O.stF, ha])).elim⟩
theorem OwL.get {K : PySem.W.Frag} {G H : Hp} : ∀ {xs : List O} {vs : List V} {F : AS} {k : Nat}, OwL K ca G H vs xs F → k < xs.length → ∃ u, vs[k]? = some u
  | [], _, _, _, _, hk => by simp at hk
  | x :: r, _, _, 0, h, _ => by cases h; exact ⟨_, rfl⟩
  | x :: r, _, _, k + 1, h, hk => by
    cases h with
    | cons h1 h2 _ _ _ =>
      obtain ⟨u, q⟩ := OwL.get (k := k) h2 (by simpa using hk)
      exact ⟨u, by simpa using q⟩
theorem OwL.length {K : PySem.W.Frag} {G H : Hp} : ∀ {xs : List O} {vs : List V} {F : AS}, OwL K ca G H vs xs F → vs.length = xs.length
  | [], _, _, h => by cases h; rfl
  | x :: r, _, _, h => by cases h with | cons h1 h2 _ _ _ => simp [OwL.length h2]
theorem ixN_lt {n j : Nat} {k : Int} (h : ixN n k = some j) : j < n := by
  unfold L2.ixN at h
  split at h <;> (try split at h) <;> (first | (cases h; omega) | cases h)
theorem pp_ix (he : PE X e (tP X.K ca W ρ i mπ)) (ho : ρ[i]? = some (some (reO r o))) (hb : PE X b (tD X.K ca W ρ mb)) (hs : PlainIx b := by intro _ _; rfl) :
    PE X (.Subscript e b pos) (tP X.K ca W ρ i (mπ >>= fun π => mb >>= fun y => O.stI o π y)) :=
  PE.of (pe_ix ix_seq he hb hs) fun σ H Q ⟨Hb, G, h⟩ => ⟨Hb, G, h.cut fun π G1 H1 _ g1 h1 v v1 hv hw => ⟨Hb, G1, h1.cut fun y G2 H2 _ g2 h2 w rw' => by
    have hw2 := valAt_mono g2.h hw
    cases ha : O.at o π with
    | none => exact (h2.nb (by simp only [O.stI, ha])).elim
    | some o1 =>
      obtain ⟨F1, ow⟩ := h2.foc ho ha hv hw2
      cases o1 with
      | oL xs =>
        cases y with
        | int k =>
          cases rw'
          cases e1 : ixN xs.length k with
          | none => exact (h2.nb (by simp only [O.stI, ha, e1])).elim
          | some j =>
            cases ow with
            | @oL p vs _ _ F2 z1 z2 z3 z4 z5 =>
              obtain ⟨u, hu⟩ := OwL.get z3 (ixN_lt e1)
              refine .inl ⟨p, vs, k, u, rfl, rfl, SqL.of z1, ?_, h2.ok (π ++ [.i j]) (by simp only [O.stI, ha, e1]) G2 H2 (.refl h2.sub) v u hv ?_⟩
              · unfold L2.atI
                rw [OwL.length z3, e1]
                exact hu
              · rw [valAt_app hw2, valAt_i z1 hu, valAt_nil]
        | _ => exact (h2.nb (by simp only [O.stI, ha])).elim
      | _ => exact (h2.nb (by simp only [O.stI, ha])).elim⟩⟩
/-! what stands there -/
theorem e_pD (he : PE X e (tP X.K ca W ρ i mπ)) (ho : ρ[i]? = some (some (reO r o))) : PE X e (tD X.K ca W ρ (mπ >>= fun π => O.dat o π)) :=
  PE.of he fun σ H Q ⟨Hb, G, h⟩ => ⟨Hb, G, h.cut fun π G1 H1 _ g1 h1 v v1 hv hw => by
    cases ha : O.at o π with
    | none => exact (h1.nb (by simp only [O.dat, ha])).elim
    | some o1 =>
      obtain ⟨F1, ow⟩ := h1.foc ho ha hv hw
      cases o1 with
      | d x =>
        cases ow with
        | d rx => exact h1.ok x (by simp only [O.dat, ha]) G1 H1 (.refl h1.sub) v1 rx
      | _ => exact (h1.nb (by simp only [O.dat, ha])).elim⟩
theorem e_pItem (he : PE X e (tP X.K ca W ρ i mπ)) (ho : ρ[i]? = some (some (reO r o))) (hb : PE X b (tD X.K ca W ρ mb)) (hs : PlainIx b := by intro _ _; rfl) :
    PE X (.Subscript e b pos) (tD X.K ca W ρ (mπ >>= fun π => mb >>= fun y => O.lsv o π >>= fun xs => D.item (.lst xs) y)) :=
  PE.of (pe_ix ix_seq he hb hs) fun σ H Q ⟨Hb, G, h⟩ => ⟨Hb, G, h.cut fun π G1 H1 _ g1 h1 v v1 hv hw => ⟨Hb, G1, h1.cut fun y G2 H2 _ g2 h2 w rw' => by
    have hw2 := valAt_mono g2.h hw
    cases ha : O.at o π with
    | none => exact (h2.nb (by simp only [O.lsv, ha]; rfl)).elim
    | some o1 =>
      obtain ⟨F1, ow⟩ := h2.foc ho ha hv hw2
      cases o1 with
      | ol r' xs =>
        have e0 : O.lsv o π = .ok xs := by simp only [O.lsv, ha]
        rw [e0, bind_ok] at h2
        cases y with
        | int k =>
          cases rw'
          cases ow with
          | @ol p _ vs _ _ z1 z2 z3 z4 =>
            cases e1 : L2.atI xs k with
            | none => exact (h2.nb (by simp only [D.item, e1, opt_none])).elim
            | some x =>
              obtain ⟨u, e2, r2⟩ := z2.atI e1
              exact .inl ⟨p, vs, k, u, rfl, rfl, SqL.of z1, e2, h2.ok x (by simp only [D.item, e1, opt_some]) G2 H2 (.refl h2.sub) u r2⟩
        | _ => exact (h2.nb rfl).elim
      | _ => exact (h2.nb (by simp only [O.lsv, ha]; rfl)).elim⟩⟩
theorem e_pLen {n1 : Str} {p1 : Pos} (he : PE X e (tP X.K ca W ρ i mπ)) (ho : ρ[i]? = some (some (reO r o))) (hg : Gl X n1) (hm : X.mg n1 = none) (hb : bootBuiltins n1 = some (.builtin "len")) (hn : n1 ≠ "__name__" := by decide) (hdb : (n1 == ("__debug__" : Str)) = false := by decide)
    (hst : starEach [e] X.env = (false, eval e X.env) :: starEach [] X.env := by rfl) (hpl : (backTo pos (starEach [] X.env)).any (·.1) = false := by rfl) :
    PE X (.Call (.Name n1 p1) [e] [] pos) (tD X.K ca W ρ (mπ >>= fun π => O.lsv o π >>= fun xs => .ok (.int xs.length))) :=
  PE.of (pe_callB call_len hg hm hb (pa_cons he pa_nil hst) hn hdb hst hpl) fun σ H Q ⟨Hb, G, h⟩ => ⟨Hb, G, h.cut fun π G1 H1 _ g1 h1 v v1 hv hw => by
    cases ha : O.at o π with
    | none => exact (h1.nb (by simp only [O.lsv, ha]; rfl)).elim
    | some o1 =>
      obtain ⟨F1, ow⟩ := h1.foc ho ha hv hw
      cases o1 with
      | ol r' xs =>
        have e0 : O.lsv o π = .ok xs := by simp only [O.lsv, ha]
        rw [e0, bind_ok] at h1
        cases ow with
        | @ol p _ vs _ _ z1 z2 z3 z4 => exact ⟨.ref p, vs.length, rfl, .inl ⟨vs, SqL.of z1, rfl⟩, by rw [z2.length]; exact h1.done _ (.int _)⟩
      | _ => exact (h1.nb (by simp only [O.lsv, ha]; rfl)).elim⟩
end
/-! ### a part of a tree, lent as data -/
mutual
/-- scalars and tuples of such -/
def D.pln : D → Bool
  | .non => true
  | .bl _ => true
  | .int _ => true
  | .str _ => true
  | .tup xs => D.plnL xs
  | _ => false
def D.plnL : List D → Bool
  | [] => true
  | x :: xs => D.pln x && D.plnL xs
end
def D.pl (d : D) : Res D := if D.pln d = true then .ok d else .bug
def D.plL (xs : List D) : Res (List D) := if D.plnL xs = true then .ok xs else .bug
theorem pl_ok {d : D} (h : D.pln d = true) : D.pl d = .ok d := if_pos h
theorem plL_ok {d : List D} (h : D.plnL d = true) : D.plL d = .ok d := if_pos h
@[simp] theorem pl_int (i : Int) : D.pl (.int i) = .ok (.int i) := rfl
@[simp] theorem pl_bl (i : Bool) : D.pl (.bl i) = .ok (.bl i) := rfl
@[simp] theorem pl_str (i : Str) : D.pl (.str i) = .ok (.str i) := rfl
@[simp] theorem pl_non : D.pl .non = .ok .non := rfl
/-- lists and instances alone -/
def NoTup (F : AS) (G : Hp) : Prop := ∀ a, F a → (∃ vs, G a = some (.lst vs)) ∨ ∃ C dx fs, G a = some (.ins C dx fs)
mutual
theorem R.hideS {K : PySem.W.Frag} {ca : Nat → Addr} {G : Hp} {F : AS} (hF : NoTup F G) : ∀ {d : D} {v : V}, D.pln d = true → R K ca G v d → R K ca (hideS F G) v d
  | .non, _, _, h => by cases h; exact .non
  | .bl _, _, _, h => by cases h; exact .bl _
  | .int _, _, _, h => by cases h; exact .int _
  | .str _, _, _, h => by cases h; exact .str _
  | .tup ds, _, l, h => by
    cases h with
    | @tup a vs _ h1 h2 =>
      have out : ∀ {u : HO}, G a = some u → (∀ vs, u ≠ .lst vs) → (∀ C dx fs, u ≠ .ins C dx fs) → Lk.hideS F G a = some u := fun {u} e n1 n2 => by
        rw [hideS_out fun z => ?_]
        · exact e
        · rcases hF a z with ⟨ws, q⟩ | ⟨C, dx, fs, q⟩
          · rw [e] at q; exact n1 ws (Option.some.inj q)
          · rw [e] at q; exact n2 C dx fs (Option.some.inj q)
      refine .tup ?_ (RL.hideS hF (by simpa [D.pln] using l) h2)
      rcases h1 with (h1 | ⟨o, h1⟩) | h1
      · exact .inl (.inl (out h1 (fun _ q => by cases q) fun _ _ _ q => by cases q))
      · exact .inl (.inr ⟨o, out h1 (fun _ q => by cases q) fun _ _ _ q => by cases q⟩)
      · exact .inr h1
  | .lst _, _, l, _ => by simp [D.pln] at l
  | .ins _ _, _, l, _ => by simp [D.pln] at l
  | .dic _, _, l, _ => by simp [D.pln] at l
  | .any, _, l, _ => by simp [D.pln] at l
theorem RL.hideS {K : PySem.W.Frag} {ca : Nat → Addr} {G : Hp} {F : AS} (hF : NoTup F G) : ∀ {ds : List D} {vs : List V}, D.plnL ds = true → RL K ca G vs ds → RL K ca (hideS F G) vs ds
  | [], _, _, h => by cases h; exact .nil
  | d :: ds, _, l, h => by
    have l' := Bool.and_eq_true_iff.mp (show (D.pln d && D.plnL ds) = true by simpa [D.plnL] using l)
    cases h with
    | cons h1 h2 => exact .cons (R.hideS hF l'.1 h1) (RL.hideS hF l'.2 h2)
end
mutual
/-- no tuple of owned things stands in it -/
def O.nt : O → Bool
  | .ot _ => false
  | .od _ => false
  | .oL xs => O.ntL xs
  | .oi _ fs => O.ntF fs
  | .pin _ o => O.nt o
  | _ => true
def O.ntL : List O → Bool
  | [] => true
  | x :: r => O.nt x && O.ntL r
def O.ntF : List (Str × O) → Bool
  | [] => true
  | (_, x) :: r => O.nt x && O.ntF r
end
section
variable {K : PySem.W.Frag} {ca : Nat → Addr} {G H : Hp}
mutual
/-- the least footprint -/
theorem Ow.least : ∀ {o : O} {v : V} {F : AS}, O.nt o = true → Ow K ca G H v o F → ∃ F0, Ow K ca G H v o F0 ∧ (∀ a, F0 a → F a) ∧ NoTup F0 H
  | .d x, _, _, _, h => by cases h with | d h1 => exact ⟨none_, .d h1, fun _ z => z.elim, fun _ z => z.elim⟩
  | .od x, _, _, t, h => by simp [O.nt] at t
  | .raw x, _, _, _, h => by cases h; exact ⟨none_, .raw, fun _ z => z.elim, fun _ z => z.elim⟩
  | .pin w o, _, _, t, h => by
    cases h with
    | pin h1 =>
      obtain ⟨F0, a, b, c⟩ := Ow.least (o := o) (by simpa [O.nt] using t) h1
      exact ⟨F0, .pin a, b, c⟩
  | .ol r xs, _, _, _, h => by
    cases h with
    | @ol p _ vs _ _ h1 h2 h3 h4 => exact ⟨fun a => a = p, .ol h1 h2 rfl h4, fun a z => by rw [z]; exact h3, fun a z => .inl ⟨vs, by rw [z]; exact h1⟩⟩
  | .oL xs, _, F, t, h => by
    cases h with
    | @oL p vs _ _ F' h1 h2 h3 h4 h5 =>
      obtain ⟨F0, a, b, c⟩ := OwL.least (by simpa [O.nt] using t) h3
      exact ⟨fun x => x = p ∨ F0 x, .oL h1 (.inl rfl) a (fun z => h4 (b p z)) fun x z => .inr z, fun x z => z.elim (fun z => by rw [z]; exact h2) fun z => h5 x (b x z), fun x z => z.elim (fun z => .inl ⟨vs, by rw [z]; exact h1⟩) (c x)⟩
  | .oi cc fs, _, F, t, h => by
    cases h with
    | @oi p dx _ fvs _ _ F' h1 h2 h3 h4 h5 =>
      obtain ⟨F0, a, b, c⟩ := OwF.least (by simpa [O.nt] using t) h3
      exact ⟨fun x => x = p ∨ F0 x, .oi h1 (.inl rfl) a (fun z => h4 (b p z)) fun x z => .inr z, fun x z => z.elim (fun z => by rw [z]; exact h2) fun z => h5 x (b x z), fun x z => z.elim (fun z => .inr ⟨ca cc, dx, fvs, by rw [z]; exact h1⟩) (c x)⟩
  | .ot xs, _, _, t, _ => by simp [O.nt] at t
theorem OwL.least : ∀ {xs : List O} {vs : List V} {F : AS}, O.ntL xs = true → OwL K ca G H vs xs F → ∃ F0, OwL K ca G H vs xs F0 ∧ (∀ a, F0 a → F a) ∧ NoTup F0 H
  | [], _, _, _, h => by cases h; exact ⟨none_, .nil, fun _ z => z.elim, fun _ z => z.elim⟩
  | x :: r, _, F, t, h => by
    have t' := Bool.and_eq_true_iff.mp (show (O.nt x && O.ntL r) = true by simpa [O.ntL] using t)
    cases h with
    | cons h1 h2 h3 h4 h5 =>
      obtain ⟨A, a1, a2, a3⟩ := Ow.least t'.1 h1
      obtain ⟨B, b1, b2, b3⟩ := OwL.least t'.2 h2
      exact ⟨fun x => A x ∨ B x, .cons a1 b1 (fun a z y => h3 a (a2 a z) (b2 a y)) (fun a z => .inl z) (fun a z => .inr z), fun a z => z.elim (fun z => h4 a (a2 a z)) fun z => h5 a (b2 a z), fun a z => z.elim (a3 a) (b3 a)⟩
theorem OwF.least : ∀ {xs : List (Str × O)} {vs : List (Str × V)} {F : AS}, O.ntF xs = true → OwF K ca G H vs xs F → ∃ F0, OwF K ca G H vs xs F0 ∧ (∀ a, F0 a → F a) ∧ NoTup F0 H
  | [], _, _, _, h => by cases h; exact ⟨none_, .nil, fun _ z => z.elim, fun _ z => z.elim⟩
  | (m, x) :: r, _, F, t, h => by
    have t' := Bool.and_eq_true_iff.mp (show (O.nt x && O.ntF r) = true by simpa [O.ntF] using t)
    cases h with
    | cons h1 h2 h3 h4 h5 =>
      obtain ⟨A, a1, a2, a3⟩ := Ow.least t'.1 h1
      obtain ⟨B, b1, b2, b3⟩ := OwF.least t'.2 h2
      exact ⟨fun x => A x ∨ B x, .cons a1 b1 (fun a z y => h3 a (a2 a z) (b2 a y)) (fun a z => .inl z) (fun a z => .inr z), fun a z => z.elim (fun z => h4 a (a2 a z)) fun z => h5 a (b2 a z), fun a z => z.elim (a3 a) (b3 a)⟩
end
end
section
variable {X : Cx} {ca : Nat → Addr} {W : WX} {ρ : Env} {i : Nat} {r : Option V} {o o1 : O} {π : List Stp} {e : Expr} {α : Type}
theorem lendP {K : PySem.W.Frag} {σ : L2.St} {Hb G H : Hp} {m : Res α} {P P2 : α → Hp → Hp → Prop} (ho : ρ[i]? = some (some (reO r o))) (ha : O.at o π = some o1) (nt : O.nt o1 = true) (h : Cr K ca W ρ σ Hb G H m P)
    (hk : ∀ F a G' H', m = .ok a → NoTup F G' → (∀ x, F x → ∃ u, Hb x = some u) → P a (hideS F G') H' → P2 a G' H') : ∃ G2, Cr K ca W (ρ.set i (some (reO r (O.put (.d o1.frz) o π)))) σ Hb G2 H m P2 := by
  obtain ⟨f, E, hf⟩ := h.env
  obtain ⟨v, v1, F1, hv, hw, ow, sub1, upd1⟩ := E.foc ho ha
  obtain ⟨F0, ow0, sub0, nt0⟩ := ow.least nt
  have kF : ∀ a, F0 a → G a = none := fun a z => (E.out i a (sub1 a (sub0 a z))).1
  have s1 : Same G (pubG F0 G H) := pubG_same kF
  have s2 : Same (pubG F0 G H) H := fun a u z => by
    by_cases q : F0 a
    · rw [pubG_in q] at z; exact z
    · rw [pubG_out q] at z; exact E.sub a u z
  have E2 := upd1 (pubG F0 G H) H (.d o1.frz) none_ s1 s2 (fun a u z => by
    by_cases q : F0 a
    · exact .inr (.inr (sub0 a q))
    · rw [pubG_out q] at z; exact .inl z) (fun a u z _ => z) (.d (ow0.frz kF)) fun a z => z.elim
  have back : ∀ {G' H' : Hp}, Gb Hb (pubG F0 G H) H G' H' → Gb Hb G H (hideS F0 G') H' ∧ NoTup F0 G' := fun {G' H'} g => by
    refine ⟨⟨fun a u z => ?_, fun a u z => ?_, g.h, fun a u z => ?_⟩, fun a z => ?_⟩
    · rw [hideS_out (fun q => by rw [kF a q] at z; cases z)]
      exact g.g a u (s1 a u z)
    · by_cases q : F0 a
      · rw [hideS_in q] at z; cases z
      · rw [hideS_out q] at z; exact g.sub a u z
    · by_cases q : F0 a
      · rw [hideS_in q] at z; cases z
      · rw [hideS_out q] at z
        rcases g.new a u z with y | y
        · rw [pubG_out q] at y
          exact .inl y
        · exact .inr y
    · rcases nt0 a z with ⟨vs, q⟩ | ⟨C, dx, fs, q⟩
      · exact .inl ⟨vs, g.g _ _ (by rw [pubG_in z]; exact q)⟩
      · exact .inr ⟨C, dx, fs, g.g _ _ (by rw [pubG_in z]; exact q)⟩
  refine ⟨pubG F0 G H, h.sb, ⟨_, E2, fun j a z => ?_⟩, h.nb, fun a e G' H' g => hk F0 a G' H' e (back g).2 (fun x z => hf i x (sub1 x (sub0 x z))) (h.ok a e _ H' (back g).1), fun c e G' H' g => h.ex c e _ H' (back g).1⟩
  by_cases e1 : j = i
  · simp only [e1, if_true] at z
    rcases z with z | z
    · exact hf i a z.1
    · exact z.elim
  · simp only [e1, if_false] at z
    exact hf j a z
def O.lend {β : Type} (o : O) (π : List Stp) (m : O → Res β) : Res β := match O.at o π with
  | some o1 => if O.nt o1 = true then m (O.put (.d o1.frz) o π) else .bug
  | none => .bug
theorem lend_inv {β : Type} {o : O} {π : List Stp} {m : O → Res β} (h : O.lend o π m ≠ .bug) : ∃ o1, O.at o π = some o1 ∧ O.nt o1 = true ∧ O.lend o π m = m (O.put (.d o1.frz) o π) := by
  unfold O.lend at h ⊢
  cases e : O.at o π with
  | none => rw [e] at h; exact (h rfl).elim
  | some o1 =>
    rw [e] at h
    by_cases q : O.nt o1 = true
    · exact ⟨o1, rfl, q, if_pos q⟩
    · exact (h (if_neg q)).elim
theorem e_lendP (π : List Stp) {m : O → Res D} (ho : ρ[i]? = some (some (reO r o))) (h : ∀ o', PE X e (tD X.K ca W (ρ.set i (some (reO r o'))) (m o'))) : PE X e (tD X.K ca W ρ (O.lend o π fun o' => m o' >>= D.pl)) := by
  refine ⟨fun pins s σ H Q I ⟨Hb, G, hq⟩ => ?_⟩
  obtain ⟨o1, e1, e2, e3⟩ := lend_inv hq.nb
  rw [e3] at hq
  refine (h (O.put (.d o1.frz) o π)).run pins s σ H Q I ?_
  obtain ⟨G2, h2⟩ := lendP ho e1 e2 (hq.cut (P := fun d G' H' => D.pln d = true ∧ ∀ v, R X.K ca G' v d → Q v H') fun d G1 H1 e g h1 => by
    by_cases hl : D.pln d = true
    · rw [pl_ok hl] at h1
      exact ⟨hl, h1.done⟩
    · exact (h1.nb (if_neg hl)).elim) (P2 := fun d G' H' => ∀ v, R X.K ca G' v d → Q v H') (fun F d G' H' _ hp _ q v rv => q.2 v (rv.hideS hp q.1))
  exact ⟨Hb, G2, h2⟩
theorem e_lendPL (π : List Stp) {m : O → Res (List D)} (ho : ρ[i]? = some (some (reO r o))) (h : ∀ o', PE X e (tL X.K ca W (ρ.set i (some (reO r o'))) (m o'))) : PE X e (tL X.K ca W ρ (O.lend o π fun o' => m o' >>= D.plL)) := by
  refine ⟨fun pins s σ H Q I ⟨Hb, G, hq⟩ => ?_⟩
  obtain ⟨o1, e1, e2, e3⟩ := lend_inv hq.nb
  rw [e3] at hq
  refine (h (O.put (.d o1.frz) o π)).run pins s σ H Q I ?_
  obtain ⟨G2, h2⟩ := lendP ho e1 e2 (hq.cut (P := fun xs G' H' => D.plnL xs = true ∧ ∀ p vs, Hb p = none → G' p = none → H' p = some (.lst vs) → RL X.K ca G' vs xs → Q (.ref p) H') fun d G1 H1 e g h1 => by
    by_cases hl : D.plnL d = true
    · rw [plL_ok hl] at h1
      exact ⟨hl, h1.done⟩
    · exact (h1.nb (if_neg hl)).elim) (P2 := fun xs G' H' => ∀ p vs, Hb p = none → G' p = none → H' p = some (.lst vs) → RL X.K ca G' vs xs → Q (.ref p) H') (fun F d G' H' _ hp hin q p vs hr gr hh rl => by
      refine q.2 p vs hr ?_ hh (rl.hideS hp q.1)
      by_cases z : F p
      · exact hideS_in z
      · rw [hideS_out z]; exact gr)
  exact ⟨Hb, G2, h2⟩
theorem t_lendP (π : List Stp) {m : O → Res Bool} (ho : ρ[i]? = some (some (reO r o))) (h : ∀ o', PT X e (tB X.K ca W (ρ.set i (some (reO r o'))) (m o'))) : PT X e (tB X.K ca W ρ (O.lend o π m)) := by
  refine ⟨fun pins s σ H Q I ⟨Hb, G, hq⟩ => ?_⟩
  obtain ⟨o1, e1, e2, e3⟩ := lend_inv hq.nb
  rw [e3] at hq
  refine (h (O.put (.d o1.frz) o π)).run pins s σ H Q I ?_
  obtain ⟨G2, h2⟩ := lendP ho e1 e2 hq (P2 := fun b _ H' => Q b H') (fun F d G' H' _ hp _ q => q)
  exact ⟨Hb, G2, h2⟩
end
/-! ### what is done with a list that is a part -/
def O.app (o : O) (π : List Stp) (d : D) : Res O := match O.at o π with
  | some (.ol r xs) => if xs.length < 100000 then .ok (O.put (.ol r (xs ++ [d])) o π) else .bug
  | _ => .bug
def O.sit (o : O) (π : List Stp) (y d : D) : Res O := match O.at o π with
  | some (.ol r xs) => setR xs y d >>= fun ys => .ok (O.put (.ol r ys) o π)
  | _ => .bug
section
variable {X : Cx} {ca : Nat → Addr} {S B T : Type} {W : WX} {ρ : Env} {ρx : EX} {emb : S → Env} {embB : B → Env} {out : T → RtP} {e b re : Expr} {rest : List Stmt} {pos : Pos} {i : Nat} {r : Option V} {o : O} {mπ : Res (List Stp)} {ma mb : Res D}
/-- the list at a path becomes another one -/
theorem EnvOk.relist {K : PySem.W.Frag} {G H : Hp} {σ : L2.St} {f : Nat → AS} {π : List Stp} {r' : Option V} {xs ys : List D} {v v1 : V} {p : Addr} {us : List V} (E : EnvOk K ca G H σ ρ f) (ho : ρ[i]? = some (some (reO r o))) (ha : O.at o π = some (.ol r' xs)) (hv : σ[i]? = some (some v)) (hw : valAt H v π = some v1) (ev : v1 = .ref p)
    (rl : RL K ca G us ys) : ∃ f', EnvOk K ca G (upd H p (.lst us)) σ (ρ.set i (some (reO r (O.put (.ol r' ys) o π)))) f' ∧ Evo G H (All f) G (upd H p (.lst us)) (All f') := by
  obtain ⟨v', v1', F1, q1, q2, ow, sub1, up⟩ := E.foc ho ha
  have e1 := Option.some.inj (opt_eq q1 hv)
  subst e1
  have e2 := opt_eq q2 hw
  subst e2 ev
  cases ow with
  | @ol _ _ vs _ _ h1 h2 h3 h4 =>
    have gp : G p = none := (E.out i p (sub1 p h3)).1
    have s : Same G (upd H p (.lst us)) := fun a u z => by rw [upd_ne (ne_of_none z gp)]; exact E.sub a u z
    have E2 := up G (upd H p (.lst us)) (.ol r' ys) (fun a => a = p) (Same.refl _) s (fun a u z => .inl z) (fun a u z n => by rw [upd_ne (fun q => n (by rw [q]; exact h3))]; exact z) (.ol upd_same rl rfl h4) fun a z => by
      rw [z]
      exact ⟨.inl h3, gp, _, upd_same⟩
    refine ⟨_, E2, ?_⟩
    have ev := evo_foc (i := i) (f := f) (F1' := fun a => a = p) (g := none_) sub1 (⟨Same.refl _, s, fun a u z n => by rw [upd_ne (fun q => n (by rw [q]; exact h3))]; exact z, fun a u z => .inl z, fun a z => z.elim (fun z => .inl (by rw [z]; exact h3)) False.elim⟩ : Evo G H F1 G (upd H p (.lst us)) (fun x => x = p ∨ none_ x))
    exact ev.less fun x z => .inl z
theorem lsv_inv {o : O} {π : List Stp} {xs : List D} (h : O.lsv o π = .ok xs) : ∃ r, O.at o π = some (.ol r xs) := by
  unfold O.lsv at h
  split at h
  · cases h; exact ⟨_, by assumption⟩
  · cases h
theorem lsv_ok {o : O} {π : List Stp} (h : O.lsv o π ≠ .bug) : ∃ xs, O.lsv o π = .ok xs := by
  unfold O.lsv at h ⊢
  split at h
  · exact ⟨_, rfl⟩
  · exact (h rfl).elim
theorem EnvOk.listAt {K : PySem.W.Frag} {G H : Hp} {σ : L2.St} {f : Nat → AS} {π : List Stp} {r' : Option V} {xs : List D} {v v1 : V} (E : EnvOk K ca G H σ ρ f) (ho : ρ[i]? = some (some (reO r o))) (ha : O.at o π = some (.ol r' xs)) (hv : σ[i]? = some (some v)) (hw : valAt H v π = some v1) :
    ∃ p us, v1 = .ref p ∧ H p = some (.lst us) ∧ RL K ca G us xs := by
  obtain ⟨v', v1', F1, q1, q2, ow, _, _⟩ := E.foc ho ha
  have e1 := Option.some.inj (opt_eq q1 hv)
  subst e1
  have e2 := opt_eq q2 hw
  subst e2
  cases ow with
  | @ol p _ vs _ _ h1 h2 h3 h4 => exact ⟨p, vs, rfl, h1, h2⟩
theorem s_appendP {apos cpos epos : Pos} {k : O → Res (Out S B T)} (hp : PE X re (tP X.K ca W ρ i mπ)) (ho : ρ[i]? = some (some (reO r o))) (he : PE X e (tD X.K ca W ρ ma)) (le : Env.le ρx.e ρ) (h : ∀ o', PSs X rest (tS X.K ca W ρx emb embB out (ρ.set i (some (reO r o'))) (k o')))
    (hbase : attributeBase re "append" X.env (eval re X.env) = eval re X.env := by rfl)
    (hfew : ((backTo cpos (starEach [e] X.env)).all (fun x => !x.1) && (backToKw cpos (keywordEach [] X.env)).all (fun x => x.1.isSome)
      && decide ([e].length + ([] : List Keyword).length + (if ([] : List Keyword).isEmpty then 0 else 1) < 30)) = true := by rfl)
    (hline : (apos.endLine == cpos.line) = true := by rfl) (hs : starEach [e] X.env = (false, eval e X.env) :: starEach [] X.env := by rfl) (hplain : (backTo cpos (starEach [] X.env)).any (·.1) = false := by rfl)
    (hsw : swapsWith (.Call (.Attribute re "append" apos) [e] [] cpos) none epos.line X.env = pure false := by rfl) :
    PSs X (.Expr (.Call (.Attribute re "append" apos) [e] [] cpos) epos :: rest) (tS X.K ca W ρx emb embB out ρ (mπ >>= fun π => O.lsv o π >>= fun _ => ma >>= fun d => O.app o π d >>= k)) :=
  PSs.of (pss_cons (ps_expr (pe_bm PySem.F.plainAttrs_list PySem.F.slot_list_append PySem.F.type_list_append mt_append hp (pa_cons he pa_nil hs) hbase hfew hline hs hplain) hsw) (PSs.any h)) fun D σ H ⟨G, f, E, hq⟩ => ⟨H, G, hq.expr E le fun π G1 H1 eπ g E1 h1 v v1 hv hw => by
    obtain ⟨xs, el⟩ := lsv_ok (bind_ne h1.nb)
    obtain ⟨r', ha⟩ := lsv_inv el
    rw [el] at h1
    replace h1 : So X.K ca W ρx emb embB out D G1 H1 (All f) (ma >>= fun d => O.app o π d >>= k) := h1
    obtain ⟨p, us, rfl, hp1, rl⟩ := E1.listAt ho ha hv hw
    refine ⟨.inl ⟨rfl, _, SqL.of hp1⟩, H1, G1, h1.expr E1 le fun d G2 H2 ed g2 E2 h2 w rw' => ?_⟩
    have rl2 := rl.mono g2.g
    by_cases hz : xs.length < 100000
    · have ea : O.app o π d = .ok (O.put (.ol r' (xs ++ [d])) o π) := by simp only [O.app, ha, if_pos hz]
      rw [ea] at h2
      refine ⟨p, us, w, rfl, rfl, g2.h _ _ hp1, Nat.lt_of_lt_of_le (by rw [rl.length]; exact hz) (by decide), O.put (.ol r' (xs ++ [d])) o π, ?_⟩
      obtain ⟨f', E3, v3⟩ := E2.relist ho ha hv (valAt_mono g2.h hw) rfl (rl2.append (.cons rw' .nil))
      exact ⟨G2, f', E3, h2.on v3⟩
    · exact (h2.nb (by simp only [O.app, ha, if_neg hz]; rfl)).elim⟩
/-- path[b] = e -/
theorem s_setItemP {spos : Pos} {k : O → Res (Out S B T)} (hp : PE X re (tP X.K ca W ρ i mπ)) (ho : ρ[i]? = some (some (reO r o))) (he : PE X e (tD X.K ca W ρ ma)) (hb : PE X b (tD X.K ca W ρ mb)) (le : Env.le ρx.e ρ) (h : ∀ o', PSs X rest (tS X.K ca W ρx emb embB out (ρ.set i (some (reO r o'))) (k o')))
    (hs : swapsWithSole [.Subscript re b spos] e pos.line X.env = pure false := by rfl) (hw : swappedStores [.Subscript re b spos] e X.env = pure none := by rfl)
    (h1 : (assignEach [.Subscript re b spos] X.env).map (·.2) = [assign (.Subscript re b spos) X.env] := by rfl)
    (ha : ∀ v, assign (.Subscript re b spos) X.env v = (do
      let ov ← holding [v] (eval re X.env)
      let iv ← holding [v, ov] (eval b X.env)
      standAt spos
      holding [v, ov, iv] (setItem ov iv v)
      release [v, ov, iv] []) := by intro _; rfl) :
    PSs X (.Assign [.Subscript re b spos] e pos :: rest) (tS X.K ca W ρx emb embB out ρ (ma >>= fun d => mπ >>= fun π => mb >>= fun y => O.sit o π y d >>= k)) :=
  PSs.of (pss_cons (ps_asg he (pg_sub hp hb set_list ha) hs hw h1) (PSs.any h)) fun D σ H ⟨G, f, E, hq⟩ => ⟨H, G, hq.expr E le fun d G1 H1 ea g E1 h1 w rw' => ⟨H1, G1, h1.expr E1 le fun π G2 H2 eπ g2 E2 h2 v v1 hv hw => ⟨H2, G2, h2.expr E2 le fun y G3 H3 eb g3 E3 h3 u ru => by
    cases hat : O.at o π with
    | none => exact (h3.nb (by simp only [O.sit, hat]; rfl)).elim
    | some o1 =>
      cases o1 with
      | ol r' xs =>
        obtain ⟨p, us, rfl, hp1, rl⟩ := E2.listAt ho hat hv hw
        cases y with
        | int z =>
          cases ru
          cases e : ixN xs.length z with
          | none => exact (h3.nb (by simp only [O.sit, hat, setR, e]; rfl)).elim
          | some j =>
            have e2 : O.sit o π (.int z) d = .ok (O.put (.ol r' (xs.set j d)) o π) := by simp only [O.sit, hat, setR, e]; rfl
            rw [e2] at h3
            refine ⟨p, us, z, j, rfl, rfl, g3.h _ _ hp1, by rw [rl.length]; exact e, O.put (.ol r' (xs.set j d)) o π, ?_⟩
            obtain ⟨f', E4, v4⟩ := E3.relist ho hat hv (valAt_mono g3.h hw) rfl ((rl.mono g3.g).set (rw'.mono (g2.g.trans g3.g)) j)
            exact ⟨G3, f', E4, h3.on v4⟩
        | _ => exact (h3.nb (by simp only [O.sit, hat]; rfl)).elim
      | _ => exact (h3.nb (by simp only [O.sit, hat]; rfl)).elim⟩⟩⟩
end
/-! ### path.m(..), m a def of its class that is lent the part -/
def O.call {α : Type} (tb : Nat → Option (List O → List D → Res (XR α × List O))) (mn : Str) (snap : O → List O) (o : O) (π : List Stp) (ds : List D) : Res (EO α O) := match O.at o π with
  | some (.oi c fs) => if (fs.lookup mn).isNone = true then (match tb c with
    | some F => F [.oi c fs] ds >>= fun
      | (.val a, [o1]) => .ok (.va a (O.put o1 o π))
      | (.exc j, [o1]) => .ok (.ra j (snap (O.put o1 o π)))
      | _ => .bug
    | none => .bug) else .bug
  | _ => .bug
/-- the method is there -/
def O.hasM {α : Type} (tb : Nat → Option α) (mn : Str) (o : O) (π : List Stp) : Res Unit := match O.at o π with
  | some (.oi c fs) => if ((fs.lookup mn).isNone && (tb c).isSome) = true then .ok () else .bug
  | _ => .bug
section
variable {X : Cx} {ca : Nat → Addr} {W : WX} {ρ : Env} {ρx : EX} {i k : Nat} {r : Option V} {o : O} {e re : Expr} {es : List Expr} {m : Str} {apos pos : Pos} {mπ : Res (List Stp)} {mas : Res (List D)} {α : Type} {out : α → O} {snap : O → List O} {tb : Nat → Option (List O → List D → Res (XR α × List O))} {n0 : Nat}
theorem hasM_inv {o : O} {π : List Stp} {mn : Str} (h : O.hasM tb mn o π ≠ .bug) : ∃ c fs F, O.at o π = some (.oi c fs) ∧ fs.lookup mn = none ∧ tb c = some F := by
  unfold O.hasM at h
  split at h
  · rename_i c fs e
    by_cases q : ((fs.lookup mn).isNone && (tb c).isSome) = true
    · have q' := Bool.and_eq_true_iff.mp q
      obtain ⟨F, hF⟩ := Option.isSome_iff_exists.mp q'.2
      exact ⟨c, fs, F, e, by simpa using q'.1, hF⟩
    · exact (h (if_neg q)).elim
  · exact (h rfl).elim
theorem hasM_ok {o : O} {π : List Stp} {mn : Str} {c : Nat} {fs : List (Str × O)} {F : List O → List D → Res (XR α × List O)} (h1 : O.at o π = some (.oi c fs)) (h2 : fs.lookup mn = none) (h3 : tb c = some F) : O.hasM tb mn o π = .ok () := by
  simp [O.hasM, h1, h2, h3]
theorem spP_of {σ : L2.St} {G H : Hp} {f : Nat → AS} {Q : VK} {ds : List D} {us : List V} {π : List Stp} {v v1 : V} {c : Nat} {fs : List (Str × O)} {F : List O → List D → Res (XR α × List O)} (E : EnvOk X.K ca G H σ ρ f) (ho : ρ[i]? = some (some (reO r o))) (ha : O.at o π = some (.oi c fs)) (hn : fs.lookup m = none) (hF : tb c = some F)
    (hv : σ[i]? = some (some v)) (hw : valAt H v π = some v1) (rl : RL X.K ca G us ds) (hl : us.length = n0) (le2 : ∀ o', Env.le (ρx.emb (snap o')) (ρ.set i (some (reO r o'))))
    (q : Xv X.K ca W ρx (fun o' => ρ.set i (some (reO r o'))) out σ G H (All f) (O.call tb m snap o π ds) Q) : spM X.K ca (true :: List.replicate n0 false) out F (v1 :: us) H Q (WE W σ) := by
  obtain ⟨v', v1', F1, q1, q2, ow, sub1, up⟩ := E.foc ho ha
  have e1 := Option.some.inj (opt_eq q1 hv)
  subst e1
  have e2 := opt_eq q2 hw
  subst e2
  have ec : O.call tb m snap o π ds = (F [.oi c fs] ds >>= fun
      | (.val a, [o1]) => .ok (.va a (O.put o1 o π))
      | (.exc j, [o1]) => .ok (.ra j (snap (O.put o1 o π)))
      | _ => .bug) := by simp only [O.call, ha, hn, hF, Option.isNone_none, if_true]
  have E0 : EnvOk X.K ca G H (sv [v1']) (eo [.oi c fs]) (fun k a => k = 0 ∧ F1 a) := by
    refine ⟨E.sub, fun k w hk => ?_, fun k l a h1 h2 => by rw [h1.1, h2.1], fun k a h1 => E.out i a (sub1 a h1.2)⟩
    cases k with
    | zero =>
      have e1 : O.oi c fs = w := by simpa using hk
      subst e1
      exact ⟨_, rfl, ow.wide fun a z => ⟨rfl, z⟩⟩
    | succ k => simp at hk
  have al : ∀ {x}, All (fun k a => k = 0 ∧ F1 a) x ↔ F1 x := fun {x} => ⟨fun ⟨_, _, z⟩ => z, fun z => ⟨0, rfl, z⟩⟩
  have key : ∀ {w : O} {G' H' : Hp} {f' : Nat → AS} {g : AS}, Evo G H (All fun k a => k = 0 ∧ F1 a) G' H' (fun x => All f' x ∨ g x) → EnvOk X.K ca G' H' (sv [v1']) (eo [w]) f' → Fr f' g G' H' →
      ∃ f2, EnvOk X.K ca G' H' σ (ρ.set i (some (reO r (O.put w o π)))) f2 ∧ Evo G H (All f) G' H' (fun x => All f2 x ∨ g x) ∧ Fr f2 g G' H' := by
    intro w G' H' f' g ev E' fr
    obtain ⟨x, z1, z2⟩ := E'.slot 0 w rfl
    have z3 : v1' = x := by simpa using z1
    subst z3
    have ev2 : Evo G H F1 G' H' (fun x => f' 0 x ∨ g x) := ⟨ev.g, ev.sub, fun a u z n => ev.h a u z fun q => n (al.mp q), fun a u z => (ev.new a u z).elim .inl fun q => q.elim (fun q => .inr (.inl q)) fun q => .inr (.inr (al.mp q)), fun a z => (ev.own a (z.elim (fun z => .inl ⟨0, z⟩) .inr)).elim (fun q => .inl (al.mp q)) .inr⟩
    refine ⟨_, up G' H' w (f' 0) ev.g ev.sub (fun a u z => (ev2.new a u z).elim .inl fun q => q.elim (fun q => .inr (.inl q)) fun q => .inr (.inr q)) (fun a u z n => ev2.h a u z n) z2 (fun a z => ⟨ev2.own a (.inl z), E'.out 0 a z⟩), evo_foc sub1 ev2, fun x z => ?_⟩
    obtain ⟨n1, n2⟩ := fr x z
    refine ⟨fun ⟨j, y⟩ => ?_, n2⟩
    have old : ∀ {j}, f j x → ¬ F1 x → False := fun {j} y nF => by
      rcases ev2.own x (.inr z) with t | t
      · exact nF t
      · obtain ⟨_, u, hu⟩ := E.out j x y
        rw [hu] at t; cases t
    by_cases e : j = i
    · simp only [e, if_true] at y
      rcases y with y | y
      · exact old y.1 y.2
      · exact n1 ⟨0, y⟩
    · simp only [e, if_false] at y
      exact old y fun t => e (E.sep j i x y (sub1 x t))
  have em : v1' :: us = mixV (true :: List.replicate n0 false) [v1'] us := by
    rw [← hl]
    simp only [mixV, mixV_all]
  refine ⟨G, [v1'], us, [.oi c fs], ds, _, em, E0, rl, rfl, fun z => q.nb (by rw [ec, z]; rfl), fun a os' z G' H' f' g w ev E' ow' fr => ?_, fun j os' z G' H' f' ev E' => ?_⟩
  · match os', z, E' with
    | [o1], z, E' =>
      obtain ⟨f2, E2, v2, fr2⟩ := key ev E' fr
      exact q.va a (O.put o1 o π) (by rw [ec, z]; rfl) G' H' f2 g w v2 E2 ow' fr2
    | [], z, _ => exact (q.nb (by rw [ec, z]; rfl)).elim
    | _ :: _ :: _, z, _ => exact (q.nb (by rw [ec, z]; rfl)).elim
  · match os', z, E' with
    | [o1], z, E' =>
      obtain ⟨f2, E2, v2, _⟩ := key (g := none_) (ev.less fun x z => z.elim id False.elim) E' (fun x z => z.elim)
      exact q.ra j (snap (O.put o1 o π)) (by rw [ec, z]; rfl) G' H' f2 (v2.less fun x z => .inl z) (E2.weak (le2 _))
    | [], z, _ => exact (q.nb (by rw [ec, z]; rfl)).elim
    | _ :: _ :: _, z, _ => exact (q.nb (by rw [ec, z]; rfl)).elim
/-- path.m(e, ..) -/
theorem x_methP (c : ∀ c F, tb c = some F → MCal X.prog X.w X.K X.mg X.base (ca c) m k (spM X.K ca (true :: List.replicate n0 false) out F) []) (hr : Room k X.A) (tk : TkE X W) (hp : PE X re (tP X.K ca W ρ i mπ)) (ho : ρ[i]? = some (some (reO r o))) (le : Env.le ρx.e ρ) (le2 : ∀ o', Env.le (ρx.emb (snap o')) (ρ.set i (some (reO r o'))))
    (ha : PA X (e :: es) (tArg X.K ca W ρ mas)) {pl : Sem Bool}
    (hst : starEach (e :: es) X.env = (false, eval e X.env) :: starEach es X.env := by rfl) (hpl : (backTo pos (starEach es X.env)).any (·.1) = false := by rfl)
    (ht : eval (.Call (.Attribute re m apos) (e :: es) [] pos) X.env = (do
      let ov ← eval re X.env
      standAt apos.atName
      let (f, first) ← holding [ov] (getMethod ov m pl)
      callWith pos f first (backTo pos (starEach (e :: es) X.env)) (backToKw pos (keywordEach [] X.env))) := by rfl) :
    PE X (.Call (.Attribute re m apos) (e :: es) [] pos) (tX X.K ca W ρx (fun o' => ρ.set i (some (reO r o'))) out ρ (mπ >>= fun π => O.hasM tb m o π >>= fun _ => mas >>= fun ds => if ds.length = n0 then O.call tb m snap o π ds else .bug)) :=
  PE.of (pe_methA (E := WE W) (pl := pl) hp hr tk ha hst hpl ht) fun σ H Q ⟨G, f, E, q⟩ => ⟨H, G, Cr.ofX q E le fun π G1 H1 eπ g1 E1 q1 v v1 hv hw => by
    obtain ⟨cc, fs, F, e1, e2, e3⟩ := hasM_inv (bind_ne q1.nb)
    rw [hasM_ok e1 e2 e3] at q1
    replace q1 : Xv X.K ca W ρx (fun o' => ρ.set i (some (reO r o'))) out σ G1 H1 (All f) (mas >>= fun ds => if ds.length = n0 then O.call tb m snap o π ds else .bug) Q := q1
    obtain ⟨v', v1', F1, q2, q3, ow, sub1, up⟩ := E1.foc ho e1
    have e4 := Option.some.inj (opt_eq q2 hv)
    subst e4
    have e5 := opt_eq q3 hw
    subst e5
    cases ow with
    | @oi p dx _ fvs _ _ F' h1 h2 h3 h4 h5 =>
      refine ⟨p, _, dx, fvs, _, [], rfl, h1, h3.lookN e2, c cc F e3, H1, G1, Cr.ofX q1 E1 le fun ds G2 H2 _ g2 E2 q4 vs rvs => ?_⟩
      by_cases hl : ds.length = n0
      · rw [if_pos hl] at q4
        rw [List.append_nil]
        exact spP_of E2 ho e1 e2 e3 hv (valAt_mono g2.h hw) rvs (by rw [rvs.length]; exact hl) le2 q4
      · rw [if_neg hl] at q4
        exact (q4.nb rfl).elim⟩
theorem x_methP0 (c : ∀ c F, tb c = some F → MCal X.prog X.w X.K X.mg X.base (ca c) m k (spM X.K ca [true] out F) []) (hr : Room k X.A) (tk : TkE X W) (hp : PE X re (tP X.K ca W ρ i mπ)) (ho : ρ[i]? = some (some (reO r o))) (le : Env.le ρx.e ρ) (le2 : ∀ o', Env.le (ρx.emb (snap o')) (ρ.set i (some (reO r o')))) {pl : Sem Bool}
    (ht : eval (.Call (.Attribute re m apos) [] [] pos) X.env = (do
      let ov ← eval re X.env
      standAt apos.atName
      let (f, first) ← holding [ov] (getMethod ov m pl)
      callWith pos f first (backTo pos (starEach [] X.env)) (backToKw pos (keywordEach [] X.env))) := by rfl) :
    PE X (.Call (.Attribute re m apos) [] [] pos) (tX X.K ca W ρx (fun o' => ρ.set i (some (reO r o'))) out ρ (mπ >>= fun π => O.hasM tb m o π >>= fun _ => O.call tb m snap o π [])) :=
  PE.of (pe_methA0 (E := WE W) (pl := pl) hp hr tk ht) fun σ H Q ⟨G, f, E, q⟩ => ⟨H, G, Cr.ofX q E le fun π G1 H1 eπ g1 E1 q1 v v1 hv hw => by
    obtain ⟨cc, fs, F, e1, e2, e3⟩ := hasM_inv (bind_ne q1.nb)
    rw [hasM_ok e1 e2 e3] at q1
    replace q1 : Xv X.K ca W ρx (fun o' => ρ.set i (some (reO r o'))) out σ G1 H1 (All f) (O.call tb m snap o π []) Q := q1
    obtain ⟨v', v1', F1, q2, q3, ow, sub1, up⟩ := E1.foc ho e1
    have e4 := Option.some.inj (opt_eq q2 hv)
    subst e4
    have e5 := opt_eq q3 hw
    subst e5
    cases ow with
    | @oi p dx _ fvs _ _ F' h1 h2 h3 h4 h5 =>
      exact ⟨p, _, dx, fvs, _, [], rfl, h1, h3.lookN e2, c cc F e3, spP_of (n0 := 0) E1 ho e1 e2 e3 hv hw .nil rfl le2 q1⟩⟩
end
end Lk
namespace Lk
open PySem PySem.Spec PyProof.Rows L2
/-! ### a tuple of texts, a constant of the module's -/
def strsB : List Value → List Str → Bool
  | [], [] => true
  | .str x _ :: vs, y :: ys => decide (x = y) && strsB vs ys
  | _, _ => false
def tupAt (K : PySem.W.Frag) (a : Addr) (xs : List Str) : Bool := match K.lookup a with
  | some ⟨.type "tuple", none, .seq its _, _⟩ => strsB its.toList xs && decide (its.size ≤ 100000)
  | _ => false
def tupB (K : PySem.W.Frag) (n : Str) (xs : List Str) : Bool := He.eqO (PySem.W.nsIn K mainGlobals n) (some (some (.ref (He.ga K n)))) && tupAt K (He.ga K n) xs
theorem strsB_ok : ∀ {vs : List Value} {xs : List Str}, strsB vs xs = true → Vals (xs.map V.str) vs
  | [], [], _ => .nil
  | .str x t :: vs, y :: ys, h => by
    have h' := Bool.and_eq_true_iff.mp (show (decide (x = y) && strsB vs ys) = true from h)
    have e := of_decide_eq_true h'.1
    subst e
    exact .cons ⟨t, rfl⟩ (strsB_ok h'.2)
  | [], _ :: _, h => by cases h
  | .str _ _ :: _, [], h => by cases h
  | .none :: _, ys, h => by cases ys <;> cases h
  | .bool _ :: _, ys, h => by cases ys <;> cases h
  | .int _ _ :: _, ys, h => by cases ys <;> cases h
  | .float _ _ :: _, ys, h => by cases ys <;> cases h
  | .bytes _ _ :: _, ys, h => by cases ys <;> cases h
  | .ref _ :: _, ys, h => by cases ys <;> cases h
  | .type _ :: _, ys, h => by cases ys <;> cases h
  | .builtin _ :: _, ys, h => by cases ys <;> cases h
  | _ :: _, [], h => by first | cases h | (simp [strsB] at h)
theorem RL.strs' {K : PySem.W.Frag} {ca : Nat → Addr} {G : Hp} : ∀ {xs : List Str}, RL K ca G (xs.map V.str) (xs.map D.str)
  | [] => .nil
  | x :: xs => .cons (.str x) RL.strs'
theorem tupAt_ok {K : PySem.W.Frag} {ca : Nat → Addr} {a : Addr} {xs : List Str} (h : tupAt K a xs = true) (G : Hp) : R K ca G (.ref a) (.tup (xs.map D.str)) := by
  unfold tupAt at h
  split at h
  · rename_i its n sl e
    have h' := Bool.and_eq_true_iff.mp h
    exact .tup (.inr ⟨_, its, n, e, rfl, rfl, Nat.le_trans (of_decide_eq_true h'.2) (by decide), strsB_ok h'.1⟩) RL.strs'
  · cases h
theorem tupB_ok {K : PySem.W.Frag} {h : Heap} {mg : Str → Option Value} {n : Str} {xs : List Str} (X : K.In h) (G : h.Ns mainGlobals mg) (c : tupB K n xs = true) : ∃ a, mg n = some (.ref a) ∧ tupAt K a xs = true := by
  have c' := Bool.and_eq_true_iff.mp c
  exact ⟨_, PySem.W.mg_of X G (He.eqO_ok c'.1), c'.2⟩
theorem tupAt_cls {K : PySem.W.Frag} {a : Addr} {xs : List Str} (h : tupAt K a xs = true) : ∃ o, K.lookup a = some o ∧ o.cls = .type "tuple" ∧ o.dict = none := by
  unfold tupAt at h
  split at h
  · rename_i its n sl e
    exact ⟨_, e, rfl, rfl⟩
  · cases h
theorem e_gTup {X : Cx} {ca : Nat → Addr} {W : WX} {ρ : Env} {n : Str} {p : Pos} {xs : List Str} (hg : Gl X n) (k : ∃ a, X.mg n = some (.ref a) ∧ tupAt X.K a xs = true) (hd : (n == ("__debug__" : Str)) = false := by decide) : PE X (.Name n p) (tD X.K ca W ρ (.ok (.tup (xs.map D.str)))) :=
  let ⟨a, h1, h2⟩ := k
  e_glob (v := .ref a) hg h1 rfl (tupAt_ok h2) hd
/-! ### methods of texts -/
def D.starts : D → D → Res D
  | .str a, .str b => .ok (.bl (Txt.startswith a b))
  | _, _ => .bug
def D.ends : D → D → Res D
  | .str a, .str b => .ok (.bl (Txt.endswith a b))
  | _, _ => .bug
def D.scount : D → D → Res D
  | .str a, .str b => .ok (.int (Txt.count a b))
  | _, _ => .bug
def D.upper : D → Res D
  | .str a => if a.length ≤ 100000 then .ok (.str (Txt.upper a)) else .bug
  | _ => .bug
section
variable {X : Cx} {ca : Nat → Addr} {W : WX} {ρ : Env} {o e : Expr} {apos pos : Pos} {mo me : Res D}
theorem e_starts (ho : PE X o (tD X.K ca W ρ mo)) (he : PE X e (tD X.K ca W ρ me)) (hs : starEach [e] X.env = [(false, eval e X.env)] := by rfl) (hbase : attributeBase o "startswith" X.env (eval o X.env) = eval o X.env := by rfl) (hline : (apos.endLine == pos.line) = true := by rfl) :
    PE X (.Call (.Attribute o "startswith" apos) [e] [] pos) (tD X.K ca W ρ (mo >>= fun x => D.txt x >>= fun x => me >>= fun y => D.starts x y)) :=
  PE.of (pe_m1 PySem.F.slot_str_startswith PySem.F.type_str_startswith mt_startswith ho he hs hbase hline) fun σ H Q ⟨Hb, G, h⟩ => ⟨Hb, G, h.cut fun x G1 H1 _ g1 h1 v rv => by
    cases x with
    | str a =>
      cases rv
      refine ⟨⟨a, rfl⟩, Hb, G1, Cr.cut (k := fun y => D.starts (.str a) y) h1 fun y G2 H2 _ g2 h2 w rw' => ?_⟩
      cases y with
      | str b =>
        cases rw'
        have e : D.starts (.str a) (.str b) = .ok (.bl (Txt.startswith a b)) := rfl
        rw [e] at h2
        exact ⟨a, b, rfl, rfl, h2.done _ (.bl _)⟩
      | _ => exact (h2.nb rfl).elim
    | _ => exact (h1.nb rfl).elim⟩
theorem e_ends (ho : PE X o (tD X.K ca W ρ mo)) (he : PE X e (tD X.K ca W ρ me)) (hs : starEach [e] X.env = [(false, eval e X.env)] := by rfl) (hbase : attributeBase o "endswith" X.env (eval o X.env) = eval o X.env := by rfl) (hline : (apos.endLine == pos.line) = true := by rfl) :
    PE X (.Call (.Attribute o "endswith" apos) [e] [] pos) (tD X.K ca W ρ (mo >>= fun x => D.txt x >>= fun x => me >>= fun y => D.ends x y)) :=
  PE.of (pe_m1 PySem.F.slot_str_endswith PySem.F.type_str_endswith mt_endswith ho he hs hbase hline) fun σ H Q ⟨Hb, G, h⟩ => ⟨Hb, G, h.cut fun x G1 H1 _ g1 h1 v rv => by
    cases x with
    | str a =>
      cases rv
      refine ⟨⟨a, rfl⟩, Hb, G1, Cr.cut (k := fun y => D.ends (.str a) y) h1 fun y G2 H2 _ g2 h2 w rw' => ?_⟩
      cases y with
      | str b =>
        cases rw'
        have e : D.ends (.str a) (.str b) = .ok (.bl (Txt.endswith a b)) := rfl
        rw [e] at h2
        exact ⟨a, b, rfl, rfl, h2.done _ (.bl _)⟩
      | _ => exact (h2.nb rfl).elim
    | _ => exact (h1.nb rfl).elim⟩
theorem e_scount (ho : PE X o (tD X.K ca W ρ mo)) (he : PE X e (tD X.K ca W ρ me)) (hs : starEach [e] X.env = [(false, eval e X.env)] := by rfl) (hbase : attributeBase o "count" X.env (eval o X.env) = eval o X.env := by rfl) (hline : (apos.endLine == pos.line) = true := by rfl) :
    PE X (.Call (.Attribute o "count" apos) [e] [] pos) (tD X.K ca W ρ (mo >>= fun x => D.txt x >>= fun x => me >>= fun y => D.scount x y)) :=
  PE.of (pe_m1 PySem.F.slot_str_count PySem.F.type_str_count mt_count ho he hs hbase hline) fun σ H Q ⟨Hb, G, h⟩ => ⟨Hb, G, h.cut fun x G1 H1 _ g1 h1 v rv => by
    cases x with
    | str a =>
      cases rv
      refine ⟨⟨a, rfl⟩, Hb, G1, Cr.cut (k := fun y => D.scount (.str a) y) h1 fun y G2 H2 _ g2 h2 w rw' => ?_⟩
      cases y with
      | str b =>
        cases rw'
        have e : D.scount (.str a) (.str b) = .ok (.int (Txt.count a b)) := rfl
        rw [e] at h2
        exact ⟨a, b, rfl, rfl, h2.done _ (.int _)⟩
      | _ => exact (h2.nb rfl).elim
    | _ => exact (h1.nb rfl).elim⟩
theorem e_upper (ho : PE X o (tD X.K ca W ρ mo)) (hbase : attributeBase o "upper" X.env (eval o X.env) = eval o X.env := by rfl) (hline : (apos.endLine == pos.line) = true := by rfl) :
    PE X (.Call (.Attribute o "upper" apos) [] [] pos) (tD X.K ca W ρ (mo >>= fun x => D.upper x)) :=
  PE.of (pe_m0 PySem.F.slot_str_upper PySem.F.type_str_upper mt_upper ho hbase hline) fun σ H Q ⟨Hb, G, h⟩ => ⟨Hb, G, h.cut fun x G1 H1 _ g1 h1 v rv => by
    cases x with
    | str a =>
      cases rv
      by_cases hz : a.length ≤ 100000
      · have e : D.upper (.str a) = .ok (.str (Txt.upper a)) := if_pos hz
        rw [e] at h1
        exact ⟨⟨a, rfl⟩, a, rfl, rfl, Nat.le_trans hz (by decide), h1.done _ (.str _)⟩
      · exact (h1.nb (if_neg hz)).elim
    | _ => exact (h1.nb rfl).elim⟩
end
/-! ### index -/
def D.fdx (xs : List D) (y : D) : Res D := match xs.findIdx? fun z => D.eqv z y with
  | some j => .ok (.int (j : Int))
  | none => .bug
def D.isStr : D → Bool
  | .str _ => true
  | _ => false
def D.lix (x y : D) : Res D := match x with
  | .lst xs => if (D.fit 19 y && D.fit 20 (.lst xs)) = true then D.fdx xs y else .bug
  | _ => .bug
def D.isL : D → Res Unit
  | .lst _ => .ok ()
  | _ => .bug
@[simp] theorem isL_lst (xs : List D) : D.isL (.lst xs) = .ok () := rfl
/-- a module's tuple of texts -/
def D.tix (xs : List Str) (y : D) : Res D := match y with
  | .str s => (match xs.findIdx? fun z => z == s with
    | some j => .ok (.int (j : Int))
    | none => .bug)
  | _ => .bug
theorem fdx_inv {xs : List D} {y : D} (h : D.fdx xs y ≠ .bug) : ∃ (j : Nat) (z : D), D.fdx xs y = .ok (.int (j : Int)) ∧ xs[j]? = some z ∧ D.eqv z y = true ∧ ∀ m z', m < j → xs[m]? = some z' → D.eqv z' y = false := by
  unfold D.fdx at h ⊢
  cases e : xs.findIdx? (fun z => D.eqv z y) with
  | none => rw [e] at h; exact (h rfl).elim
  | some j =>
    obtain ⟨h1, h2, h3⟩ := List.findIdx?_eq_some_iff_getElem.mp e
    refine ⟨j, xs[j], rfl, List.getElem?_eq_getElem h1, h2, fun m z' hm hz => ?_⟩
    have hm2 : m < xs.length := Nat.lt_trans hm h1
    rw [List.getElem?_eq_getElem hm2] at hz
    cases hz
    simpa using h3 m hm
theorem pyL_get : ∀ {xs : List D} {j : Nat}, (D.pyL xs)[j]? = (xs[j]?).map D.py
  | [], j => by cases j <;> rfl
  | x :: xs, 0 => rfl
  | x :: xs, j + 1 => by
    show (D.pyL xs)[j]? = _
    rw [pyL_get]
    simp
section
variable {X : Cx} {ca : Nat → Addr} {W : WX} {ρ : Env} {o e : Expr} {apos cpos : Pos} {mo me : Res D}
theorem e_lix {k : Nat} (hr : Room k X.A) (ho : PE X o (tD X.K ca W ρ mo)) (he : PE X e (tD X.K ca W ρ me))
    (hbase : attributeBase o "index" X.env (eval o X.env) = eval o X.env := by rfl)
    (hfew : ((backTo cpos (starEach [e] X.env)).all (fun x => !x.1) && (backToKw cpos (keywordEach [] X.env)).all (fun x => x.1.isSome)
      && decide ([e].length + ([] : List Keyword).length + (if ([] : List Keyword).isEmpty then 0 else 1) < 30)) = true := by rfl)
    (hline : (apos.endLine == cpos.line) = true := by rfl) (hs : starEach [e] X.env = (false, eval e X.env) :: starEach [] X.env := by rfl) (hplain : (backTo cpos (starEach [] X.env)).any (·.1) = false := by rfl) :
    PE X (.Call (.Attribute o "index" apos) [e] [] cpos) (tD X.K ca W ρ (mo >>= fun x => D.isL x >>= fun _ => me >>= fun y => D.lix x y)) :=
  PE.of (pe_bm PySem.F.plainAttrs_list PySem.F.slot_list_index PySem.F.type_list_index (mt_indexD (by have := hr.un; omega)) ho (pa_cons he pa_nil hs) hbase hfew hline hs hplain) fun σ H Q ⟨Hb, G, h⟩ => ⟨Hb, G, h.cut fun x G1 H1 _ g1 h1 v rv => by
    cases x with
    | lst xs =>
      have rv0 := rv
      cases rv with
      | lst q1 q2 =>
        refine ⟨.inl ⟨rfl, _, Same.sqL h1.sub q1⟩, Hb, G1, Cr.cut (k := fun y => D.lix (.lst xs) y) (show Cr _ _ _ _ _ _ _ _ (me >>= fun y => D.lix (.lst xs) y) _ from h1) fun y G2 H2 _ g2 h2 w rw' => ?_⟩
        by_cases hc : (D.fit 19 y && D.fit 20 (.lst xs)) = true
        · have e0 : D.lix (.lst xs) y = D.fdx xs y := if_pos hc
          rw [e0] at h2
          have hc' := Bool.and_eq_true_iff.mp hc
          obtain ⟨j, z, e1, e2, e3, e4⟩ := fdx_inv h2.nb
          have fx : ∀ z ∈ xs, D.fit 19 z = true := by simpa [D.fit] using hc'.2
          refine ⟨_, _, _, _, j, z.py, rfl, rfl, R.dp h2.sub hc'.2 (rv0.mono g2.g), R.dp h2.sub hc'.1 rw', fit_shaped hc'.2 (by decide), fit_shaped hc'.1 (by decide), ?_, ?_, fun m z' hm hz => ?_, h2.ok _ e1 _ _ (.refl h2.sub) _ (.int _)⟩
          · rw [pyL_get, e2]; rfl
          · rw [eqv_py (fx z (List.mem_of_getElem? e2)) hc'.1]; exact e3
          · rw [pyL_get] at hz
            cases q : xs[m]? with
            | none => rw [q] at hz; cases hz
            | some z2 =>
              rw [q] at hz
              have : z2.py = z' := Option.some.inj hz
              subst this
              rw [eqv_py (fx z2 (List.mem_of_getElem? q)) hc'.1]
              exact e4 m z2 hm q
        · exact (h2.nb (if_neg hc)).elim
    | _ => exact (h1.nb rfl).elim⟩
theorem e_tix {n : Str} {p0 : Pos} {xs : List Str} (hg : Gl X n) (k : ∃ a, X.mg n = some (.ref a) ∧ tupAt X.K a xs = true) (he : PE X e (tD X.K ca W ρ me)) (hd : (n == ("__debug__" : Str)) = false := by decide)
    (hbase : attributeBase (.Name n p0) "index" X.env (eval (.Name n p0) X.env) = eval (.Name n p0) X.env := by rfl)
    (hfew : ((backTo cpos (starEach [e] X.env)).all (fun x => !x.1) && (backToKw cpos (keywordEach [] X.env)).all (fun x => x.1.isSome)
      && decide ([e].length + ([] : List Keyword).length + (if ([] : List Keyword).isEmpty then 0 else 1) < 30)) = true := by rfl)
    (hline : (apos.endLine == cpos.line) = true := by rfl) (hs : starEach [e] X.env = (false, eval e X.env) :: starEach [] X.env := by rfl) (hplain : (backTo cpos (starEach [] X.env)).any (·.1) = false := by rfl) :
    PE X (.Call (.Attribute (.Name n p0) "index" apos) [e] [] cpos) (tD X.K ca W ρ (me >>= fun y => D.tix xs y)) := by
  obtain ⟨a, h1, h2⟩ := k
  refine PE.of (pe_bm PySem.F.plainAttrs_tuple PySem.F.slot_tuple_index PySem.F.type_tuple_index mt_tup_index (pe_glob (v := .ref a) hg h1 rfl hd) (pa_cons he pa_nil hs) hbase hfew hline hs hplain) fun σ H Q ⟨Hb, G, h⟩ => ⟨.inr (.inl ⟨rfl, tupAt_cls h2⟩), Hb, G, h.cut fun y G2 H2 _ g2 h2' w rw' => ?_⟩
  cases y with
  | str s =>
    cases rw'
    cases e0 : xs.findIdx? (fun z => z == s) with
    | none => exact (h2'.nb (by simp only [D.tix, e0])).elim
    | some j =>
      obtain ⟨z1, z2, z3⟩ := List.findIdx?_eq_some_iff_getElem.mp e0
      have r := tupAt_ok (ca := ca) h2 G2
      cases r with
      | tup q1 q2 =>
        rename_i vs
        have ev : vs = xs.map V.str := by
          have : ∀ {xs : List Str} {vs : List V}, RL X.K ca G2 vs (xs.map D.str) → vs = xs.map V.str := by
            intro xs
            induction xs with
            | nil => intro vs h; cases h; rfl
            | cons x xs ih => intro vs h; cases h with | cons a b => cases a; rw [ih b]; rfl
          exact this q2
        subst ev
        refine ⟨a, xs, s, j, rfl, rfl, Same.sqT h2'.sub q1, ?_, fun m hm q => ?_, h2'.ok (.int j) (by simp only [D.tix, e0]) _ _ (.refl h2'.sub) _ (.int _)⟩
        · rw [List.getElem?_eq_getElem z1]
          rw [beq_iff_eq.mp z2]
        · have := z3 m hm
          have hm2 : m < xs.length := Nat.lt_trans hm z1
          rw [List.getElem?_eq_getElem hm2] at q
          have q' := Option.some.inj q
          rw [q'] at this
          simp at this
  | _ => exact (h2'.nb rfl).elim
end
end Lk
namespace Lk
open PySem PySem.Spec PyProof.Rows L2
section
variable {X : Cx} {ca : Nat → Addr} {S B T : Type} {W : WX} {ρ : Env} {ρx : EX} {emb : S → Env} {embP : V → S → Env} {embB : B → Env} {out : T → RtP} {body rest : List Stmt} {pos : Pos} {step : S → D → Res (Out S S T)} {s0 : S} {i j : Nat} {n m : Str} {p q : Pos} {rr : Option V} {xs : List D}
theorem EnvOk.repin {K : PySem.W.Frag} {G H : Hp} {σ : L2.St} {f : Nat → AS} {r r' : Option V} (E : EnvOk K ca G H σ ρ f) (ho : ρ[j]? = some (some (.ol r xs))) (h : ∀ v, σ[j]? = some (some v) → ∀ w, r' = some w → w = v) : EnvOk K ca G H σ (ρ.set j (some (.ol r' xs))) f := by
  refine ⟨E.sub, fun k o hk => ?_, E.sep, E.out⟩
  by_cases e : k = j
  · subst e
    have hl : k < (ρ.set k (some (.ol r' xs))).length := (List.getElem?_eq_some_iff.mp hk).1
    rw [List.length_set] at hl
    rw [List.getElem?_set_self hl] at hk
    cases hk
    obtain ⟨v, q1, q2⟩ := E.slot k _ ho
    cases q2 with
    | ol h1 h2 h3 h4 => exact ⟨_, q1, .ol h1 h2 h3 (h _ q1)⟩
  · rw [List.getElem?_set_ne (Ne.symm e)] at hk
    exact E.slot k o hk
/-- for n in x, x a list of one's own that the body leaves as it is -/
theorem s_forOwn {r0 : Option V} (hp : PassesOwn (model X.prog X.w) X.A X.env X.xe) (hc : X.calm = true) (hN : X.N.Nodup) (hm : X.N[j]? = some m) (hv : Vis X.env.scope m) (hd : (m == ("__debug__" : Str)) = false) (hcd : (m == ("__classdict__" : Str)) = false) (ho : ρ[j]? = some (some (.ol r0 xs)))
    (hn : X.N[i]? = some n) (hx : Loc X.env.scope n)
    (hj : ∀ b s, (embP b s)[j]? = some (some (.ol (some b) xs))) (back : ∀ b s, emb s = (embP b s).set j (some (.ol r0 xs))) (le0 : ∀ b, Env.le (embP b s0) (ρ.set j (some (.ol (some b) xs))))
    (hb : ∀ b s x, PSs X body (tS X.K ca W ρx (embP b) (embP b) out ((embP b s).set i (some (.d x))) (step s x)))
    (hs : ∀ x, foldedSetIterable (.Name m q) X.env x = pure x := by intro _; rfl) (hf : X.fn n = true ∨ X.env.scope.names.lookup n = some .local := by first | exact .inl rfl | exact .inr rfl | assumption) :
    PS X (.For (.Name n p) (.Name m q) body [] pos) (tS X.K ca W ρx emb embB out ρ (loopR step xs s0)) :=
  PS.of (ps_for (tb := fun D σ H => ∃ b s x σ0 v G f, σ = σ0.set i (some v) ∧ EnvOk X.K ca G H σ0 (embP b s) f ∧ R X.K ca G v x ∧ So X.K ca W ρx (embP b) (embP b) out D G H (All f) (step s x)) hp hc (pi_list (pe_var hm hv hd hcd)) (pg_name hN hn hx hf) ⟨fun pins s0 σ H D I ⟨b, s, x, σ0, v, G, f, es, E, r, h⟩ => (hb b s x).run pins s0 σ H D I (by
    subst es
    have hl := I.len
    rw [List.length_set] at hl
    have hiσ : i < σ0.length := by rw [hl]; exact (List.getElem?_eq_some_iff.mp hn).1
    exact ⟨G, _, E.put hiσ r, h.on ((Evo.refl E.sub).less fun x z => (all_put z).elim False.elim id)⟩)⟩ hs) fun D0 σ H ⟨G, f, E, hq⟩ => by
    obtain ⟨p0, vs, hσ, hp0, rl, fp, pn⟩ := E.own ho
    have Ep := E.repin (r' := some (.ref p0)) ho (fun v hv' w ew => by
      rw [hσ] at hv'
      cases hv'; cases ew; rfl)
    refine ⟨.ref p0, hσ, p0, rfl, ⟨vs, SqL.of hp0⟩, fun i' m' σ' H' => m' = xs.length - i' ∧ i' ≤ xs.length ∧ ∃ s G' f', EnvOk X.K ca G' H' σ' (embP (.ref p0) s) f' ∧ So X.K ca W ρx emb embB out D0 G' H' (All f') (loopR step (xs.drop i') s),
      ⟨xs.length, rfl, Nat.zero_le _, s0, G, f, Ep.weak (le0 _), hq⟩, ?_⟩
    rintro i' m' σ' H' ⟨rfl, hi', s, G', f', E', hq'⟩
    obtain ⟨p1, us, h1σ, hp1, rl1, fp1, pn1⟩ := E'.own (hj _ s)
    have ep := pn1 _ rfl
    cases ep
    by_cases hlt : i' < xs.length
    · have hlu : i' < us.length := by rw [rl1.length]; exact hlt
      refine .inr ⟨⟨us, us[i'], SqL.of hp1, List.getElem?_eq_getElem hlu⟩, fun σ2 H2 => ∃ s2 G2 f2, EnvOk X.K ca G2 H2 σ2 (embP (.ref p0) s2) f2 ∧ So X.K ca W ρx emb embB out D0 G2 H2 (All f2) (loopR step (xs.drop (i' + 1)) s2), fun σ2 H2 n2 => ⟨xs.length - (i' + 1), by omega, rfl, hlt, n2⟩, fun v H2 y => ?_⟩
      obtain ⟨e2, y2⟩ := y
      subst e2
      have ey := y2 us (SqL.of hp1)
      obtain ⟨d, e1, rv⟩ := rl1.get' ey
      have ed : xs.drop i' = d :: xs.drop (i' + 1) := by
        rw [List.drop_eq_getElem_cons hlt]
        have := (List.getElem?_eq_some_iff.mp e1).2
        rw [this]
      rw [ed] at hq'
      refine ⟨.ref p0, s, d, σ', v, G', f', rfl, E', rv, ⟨fun z => hq'.nb (by simp only [loopR, z]; rfl), fun s2 z σ3 G3 H3 f3 v3 E3 => ?_, fun s2 z σ3 G3 H3 f3 v3 E3 => ?_, fun s2 z σ3 G3 H3 f3 v3 E3 => ?_, fun r z => hq'.rt r (by simp only [loopR, z]; rfl), fun c z => hq'.ex c (by simp only [loopR, z]; rfl), fun c os z => hq'.ra c os (by simp only [loopR, z]; rfl)⟩⟩
      · exact ⟨s2, G3, f3, E3, So.step (m := step s d) (a := .nx s2) hq' z v3⟩
      · have E4 := E3.repin (r' := r0) (hj _ s2) (fun v' hv' w ew => by
          obtain ⟨p2, _, h2σ, _, _, _, pn2⟩ := E3.own (hj _ s2)
          have ep2 := pn2 _ rfl
          cases ep2
          rw [h2σ] at hv'
          cases hv'
          exact pn w ew)
        rw [← back] at E4
        exact hq'.nx s2 (by simp only [loopR, z]; rfl) σ3 G3 H3 f3 v3 E4
      · exact ⟨s2, G3, f3, E3, So.step (m := step s d) (a := .ct s2) hq' z v3⟩
    · have ei : i' = xs.length := by omega
      refine .inl ⟨⟨us, SqL.of hp1, by rw [rl1.length, ei]; exact Nat.le_refl _⟩, ?_⟩
      have ed : xs.drop i' = [] := by rw [ei]; exact List.drop_length
      rw [ed] at hq'
      have E4 := E'.repin (r' := r0) (hj _ s) (fun v' hv' w ew => by
        rw [h1σ] at hv'
        cases hv'
        exact pn w ew)
      rw [← back] at E4
      exact hq'.nx s rfl σ' G' H' f' (.refl E'.sub) E4
end
section
variable {X : Cx} {ca : Nat → Addr} {W : WX} {ρ : Env} {ρx : EX} {S S' B T : Type} {emb : S → Env} {emb' : S' → Env} {embB : B → Env} {outR : T → RtP} {a b : Expr} {es : List Expr} {pos : Pos} {M : Res (EO D S)} {MB : Res (EO Bool S)} {mb : S → Res D} {nb : S → Res Bool}
theorem PE.any' {X : Cx} {ι : Type} {e : Expr} {t : ι → TE} (h : ∀ i, PE X e (t i)) : PE X e (fun σ H Q => ∃ i, t i σ H Q) := ⟨fun pins s σ H Q I ⟨i, q⟩ => (h i).run pins s σ H Q I q⟩
theorem PW.any' {X : Cx} {ι : Type} {e : Expr} {t : ι → TT} (h : ∀ i, PW X e (t i)) : PW X e (fun σ H Q => ∃ i, t i σ H Q) := ⟨fun wh pins s σ H Q I ⟨i, q⟩ => (h i).run wh pins s σ H Q I q⟩
theorem Xb.step {α : Type} {K : PySem.W.Frag} {out : α → O} {σ : L2.St} {G H G' H' : Hp} {f f' : Nat → AS} {g : AS} {M : Res (EO α S)} {k : EO α S → Res (EO Bool S)} {x : EO α S} {Q : Bool → Hp → Prop} (z : Xb K ca W ρx emb σ G H (All f) (M >>= k) Q) (e : M = .ok x) (ev : Evo G H (All f) G' H' (fun y => All f' y ∨ g y)) : Xb K ca W ρx emb σ G' H' (All f') (k x) Q := by
  have ev' : Evo G H (All f) G' H' (All f') := ev.less fun x z => .inl z
  subst e
  exact ⟨fun q => z.nb q, fun a s q G2 H2 f2 v2 E2 => z.va a s q G2 H2 f2 (ev'.trans v2) E2, fun c q G2 H2 f2 v2 E2 => z.ex c q G2 H2 f2 (ev'.trans v2) E2, fun c os q G2 H2 f2 v2 E2 => z.ra c os q G2 H2 f2 (ev'.trans v2) E2⟩
/-- a op b, a changes owned things -/
theorem xb_cmp {op : CmpOp} {rr : R2} {ff : D → D → Res D} (hop : OpR X (compareOp op) rr) (l : Lift2 X.K ca rr ff) (ha : PE X a (tX X.K ca W ρx emb O.d ρ M)) (hb : ∀ s, PE X b (tD X.K ca W (emb s) (mb s))) (le2 : ∀ s, Env.le ρx.e (emb s)) (hm : behindInMarks op b = false) :
    PT X (.Compare a [op] [b] pos) (tXB X.K ca W ρx emb ρ (M >>= EO.then_ fun x s => mb s >>= fun y => ff x y >>= D.toB >>= fun b => .ok (.va b s))) :=
  PT.of (pt_cmpR hop ha (PE.any' hb) hm) fun σ H Q ⟨G, f, E, z⟩ => ⟨G, f, E, ⟨fun z1 => z.nb (by rw [z1]; rfl), fun x s ex G' H' f' g v ev E1 ow fr => by
    have z1 := Xb.step (out := O.d) z ex ev
    have rv : R X.K ca G' v x := by cases ow with | d h => exact h
    refine ⟨s, H', G', Cr.ofXB (k := fun y => ff x y >>= D.toB >>= fun b => .ok (.va b s)) z1 E1 (le2 s) fun y G1 H1 ey g1 E3 q1 w rw' => ?_⟩
    have hf : ∀ i a, f' i a → ∃ u, H1 a = some u := fun i a q => (E3.out i a q).2
    refine l (Same.refl _) E3.sub (rv.mono g1.g) rw' (fun e => q1.nb (by rw [e]; rfl)) fun z3 G3 H3 ez g3 v' r' => ?_
    cases z3 with
    | bl k =>
      cases r'
      exact ⟨k, rfl, q1.va k s (by rw [ez]; rfl) G3 H3 f' (.of_grow g3.grow) (E3.gb hf g3)⟩
    | _ => exact (q1.nb (by rw [ez]; rfl)).elim, fun c ec G' H' f' v E1 => z.ex c (by rw [ec]; rfl) G' H' f' v E1, fun c os ec G' H' f' v E1 => z.ra c os (by rw [ec]; rfl) G' H' f' v E1⟩⟩
/-- a or .., a changes owned things -/
theorem xb_or (ha : PT X a (tXB X.K ca W ρx emb ρ MB)) (hb : ∀ s, PW X (.BoolOp .Or (b :: es) pos) (tB X.K ca W (emb s) (nb s))) (le2 : ∀ s, Env.le ρx.e (emb s)) : PW X (.BoolOp .Or (a :: b :: es) pos) (tXB X.K ca W ρx emb ρ (MB >>= EO.then_ fun x s => if x then .ok (.va true s) else nb s >>= fun y => .ok (.va y s))) :=
  PW.of (pw_or ha (PW.any' hb)) fun σ H Q ⟨G, f, E, z⟩ => ⟨G, f, E, ⟨fun z1 => z.nb (by rw [z1]; rfl), fun x s ex G' H' f' ev E1 => by
    have z1 := Xb.step (α := Bool) (out := fun _ => .d .non) (g := none_) z ex (ev.less fun x z => z.elim id False.elim)
    cases x with
    | true => exact z1.va true s rfl G' H' f' (.refl E1.sub) E1
    | false => exact ⟨s, H', G', Cr.ofXB (k := fun y => .ok (.va y s)) z1 E1 (le2 s) fun y G1 H1 ey g1 E3 q1 => q1.va y s rfl G1 H1 f' (.refl E3.sub) E3⟩, fun c ec G' H' f' v E1 => z.ex c (by rw [ec]; rfl) G' H' f' v E1, fun c os ec G' H' f' v E1 => z.ra c os (by rw [ec]; rfl) G' H' f' v E1⟩⟩
theorem xb_and (ha : PT X a (tXB X.K ca W ρx emb ρ MB)) (hb : ∀ s, PW X (.BoolOp .And (b :: es) pos) (tB X.K ca W (emb s) (nb s))) (le2 : ∀ s, Env.le ρx.e (emb s)) : PW X (.BoolOp .And (a :: b :: es) pos) (tXB X.K ca W ρx emb ρ (MB >>= EO.then_ fun x s => if x then nb s >>= fun y => .ok (.va y s) else .ok (.va false s))) :=
  PW.of (pw_and ha (PW.any' hb)) fun σ H Q ⟨G, f, E, z⟩ => ⟨G, f, E, ⟨fun z1 => z.nb (by rw [z1]; rfl), fun x s ex G' H' f' ev E1 => by
    have z1 := Xb.step (α := Bool) (out := fun _ => .d .non) (g := none_) z ex (ev.less fun x z => z.elim id False.elim)
    cases x with
    | true => exact ⟨s, H', G', Cr.ofXB (k := fun y => .ok (.va y s)) z1 E1 (le2 s) fun y G1 H1 ey g1 E3 q1 => q1.va y s rfl G1 H1 f' (.refl E3.sub) E3⟩
    | false => exact z1.va false s rfl G' H' f' (.refl E1.sub) E1, fun c ec G' H' f' v E1 => z.ex c (by rw [ec]; rfl) G' H' f' v E1, fun c os ec G' H' f' v E1 => z.ra c os (by rw [ec]; rfl) G' H' f' v E1⟩⟩
end
/-! ### x.pop(k), the item dropped -/
def popR (xs : List D) (y : D) : Res (List D) := match y with
  | .int k => if 0 ≤ k ∧ k < (xs.length : Int) ∧ xs.length ≤ 100000 then .ok (xs.eraseIdx k.toNat) else .bug
  | _ => .bug
theorem popR_ok {xs : List D} {k : Nat} (h : k < xs.length) (h2 : xs.length ≤ 100000) : popR xs (.int (k : Int)) = .ok (xs.eraseIdx k) := by
  show (if 0 ≤ (k : Int) ∧ (k : Int) < (xs.length : Int) ∧ xs.length ≤ 100000 then Res.ok (xs.eraseIdx (k : Int).toNat) else .bug) = _
  rw [if_pos ⟨by omega, by omega, h2⟩]
  rfl
theorem RL.erase {K : PySem.W.Frag} {ca : Nat → Addr} {G : Hp} : ∀ {ds : List D} {vs : List V} {k : Nat}, RL K ca G vs ds → RL K ca G (vs.eraseIdx k) (ds.eraseIdx k)
  | [], _, k, h => by cases h; exact .nil
  | d :: ds, _, 0, h => by cases h with | cons h1 h2 => exact h2
  | d :: ds, _, k + 1, h => by cases h with | cons h1 h2 => exact .cons h1 (RL.erase h2)
section
variable {X : Cx} {ca : Nat → Addr} {S B T : Type} {W : WX} {ρ : Env} {ρx : EX} {emb : S → Env} {embB : B → Env} {out : T → RtP} {i : Nat} {n : Str} {e : Expr} {rest : List Stmt} {ma : Res D}
theorem s_pop {apos cpos epos p0 : Pos} {r : Option V} {xs : List D} {k : List D → Res (Out S B T)} (hN : X.N[i]? = some n) (hv : Vis X.env.scope n) (hd : (n == ("__debug__" : Str)) = false) (hcd : (n == ("__classdict__" : Str)) = false)
    (ho : ρ[i]? = some (some (.ol r xs))) (he : PE X e (tD X.K ca W ρ ma)) (le : Env.le ρx.e ρ) (h : ∀ ys, PSs X rest (tS X.K ca W ρx emb embB out (ρ.set i (some (.ol r ys))) (k ys)))
    (hbase : attributeBase (.Name n p0) "pop" X.env (eval (.Name n p0) X.env) = eval (.Name n p0) X.env := by rfl)
    (hfew : ((backTo cpos (starEach [e] X.env)).all (fun x => !x.1) && (backToKw cpos (keywordEach [] X.env)).all (fun x => x.1.isSome)
      && decide ([e].length + ([] : List Keyword).length + (if ([] : List Keyword).isEmpty then 0 else 1) < 30)) = true := by rfl)
    (hline : (apos.endLine == cpos.line) = true := by rfl) (hs : starEach [e] X.env = (false, eval e X.env) :: starEach [] X.env := by rfl) (hplain : (backTo cpos (starEach [] X.env)).any (·.1) = false := by rfl)
    (hsw : swapsWith (.Call (.Attribute (.Name n p0) "pop" apos) [e] [] cpos) none epos.line X.env = pure false := by rfl) :
    PSs X (.Expr (.Call (.Attribute (.Name n p0) "pop" apos) [e] [] cpos) epos :: rest) (tS X.K ca W ρx emb embB out ρ (ma >>= fun y => popR xs y >>= k)) :=
  PSs.of (pss_cons (ps_expr (pe_bm PySem.F.plainAttrs_list PySem.F.slot_list_pop PySem.F.type_list_pop mt_popAt (pe_var hN hv hd hcd) (pa_cons he pa_nil hs) hbase hfew hline hs hplain) hsw) (PSs.any h)) fun D σ H ⟨G, f, E, hq⟩ => by
    obtain ⟨p, vs, hσ, hp, rl, fp, pn⟩ := E.own ho
    refine ⟨.ref p, hσ, .inl ⟨rfl, _, SqL.of hp⟩, H, G, hq.expr E le fun d G1 H1 ea g E1 h1 w rw' => ?_⟩
    have rl1 := rl.mono g.g
    cases d with
    | int z =>
      cases rw'
      by_cases hz : 0 ≤ z ∧ z < (xs.length : Int) ∧ xs.length ≤ 100000
      · have ep : popR xs (.int z) = .ok (xs.eraseIdx z.toNat) := if_pos hz
        rw [ep] at h1
        have hk : z.toNat < vs.length := by rw [rl.length]; omega
        refine ⟨p, vs, z, z.toNat, vs[z.toNat], rfl, rfl, g.h _ _ hp, by omega, by omega, ?_, List.getElem?_eq_getElem hk, xs.eraseIdx z.toNat, ?_⟩
        · unfold seqIndex?
          simp
          omega
        · obtain ⟨E2, v2⟩ := E1.change (vs := vs.eraseIdx z.toNat) (xs := xs.eraseIdx z.toNat) fp rfl rl1.erase hσ rfl pn
          exact ⟨G1, f, E2, h1.on v2⟩
      · exact (h1.nb (by show (popR xs (.int z) >>= k) = _; rw [show popR xs (.int z) = .bug from if_neg hz]; rfl)).elim
    | _ => exact (h1.nb rfl).elim
end
/-! ### one owned thing lent: told by its new tree -/
section
variable {X : Cx} {ca : Nat → Addr} {W : WX} {ρ : Env} {ρx : EX} {α : Type} {out : α → O} {e : Expr} {j : Nat} {r : Option V} {M : Res (EO α (List O))}
theorem x_one (h : PE X e (tX X.K ca W ρx (putS ρ [j] [r]) out ρ M)) : PE X e (tX X.K ca W ρx (fun o' => ρ.set j (some (reO r o'))) out ρ (M >>= EO.then_ fun a os => un1 (fun o => .ok (.va a o)) os)) :=
  PE.of h fun σ H Q ⟨G, f, E, z⟩ => ⟨G, f, E, ⟨fun z1 => z.nb (by rw [z1]; rfl), fun a os ea G' H' f' g v ev E1 ow fr => match os, ea, E1 with
    | [o], ea, E1 => z.va a o (by rw [ea]; rfl) G' H' f' g v ev E1 ow fr
    | [], ea, _ => (z.nb (by rw [ea]; rfl)).elim
    | _ :: _ :: _, ea, _ => (z.nb (by rw [ea]; rfl)).elim, fun c ec G' H' f' v E1 => z.ex c (by rw [ec]; rfl) G' H' f' v E1, fun c os ec G' H' f' v E1 => z.ra c os (by rw [ec]; rfl) G' H' f' v E1⟩⟩
end
end Lk
namespace Lk
open PySem PyProof.Rows L2
def D.tag : D → Nat
  | .non => 1
  | .bl _ => 2
  | .int _ => 3
  | .str _ => 4
  | .lst _ => 5
  | .tup _ => 5
  | .ins _ _ => 5
  | .dic _ => 5
  | .any => 0
def difD (xs ys : List D) : Bool := (xs.length != ys.length) || (match xs, ys with
  | x :: _, y :: _ => (x.tag != y.tag) && (x.tag != 0 && y.tag != 0)
  | _, _ => false)
def D.freeX (ys : List D) (d : D) : Res D := match d with
  | .lst xs => if (D.lfL xs && difD xs ys) = true then .ok d else .bug
  | d => D.free d
theorem freeX_lst {xs ys : List D} (h1 : D.lfL xs = true) (h2 : difD xs ys = true) : D.freeX ys (.lst xs) = .ok (.lst xs) := if_pos (by rw [h1, h2]; rfl)
theorem freeX_non (ys : List D) : D.freeX ys .non = .ok .non := rfl
def V.tag : V → Nat
  | .non => 1
  | .bl _ => 2
  | .int _ => 3
  | .str _ => 4
  | .ref _ => 5
  | _ => 0
section
variable {K : PySem.W.Frag} {ca : Nat → Addr} {G : Hp} {p : Addr} {us : List V}
theorem R.tag : ∀ {d : D} {v : V}, R K ca G v d → d.tag ≠ 0 → V.tag v = d.tag
  | .any, _, _, h => (h rfl).elim
  | .non, _, h, _ => by cases h; rfl
  | .bl _, _, h, _ => by cases h; rfl
  | .int _, _, h, _ => by cases h; rfl
  | .str _, _, h, _ => by cases h; rfl
  | .lst _, _, h, _ => by cases h; rfl
  | .tup _, _, h, _ => by cases h; rfl
  | .ins _ _, _, h, _ => by cases h; rfl
  | .dic _, _, h, _ => by cases h; rfl
theorem RL.len : ∀ {ds : List D} {vs : List V}, RL K ca G vs ds → vs.length = ds.length
  | [], _, h => by cases h; rfl
  | _ :: _, _, h => by
    cases h with
    | cons _ h2 => simp [RL.len h2]
theorem RL.dif {xs ys : List D} (h1 : RL K ca G us xs) (h2 : RL K ca G us ys) : difD xs ys = false := by
  have l1 := RL.len h1
  have l2 := RL.len h2
  have l : (xs.length != ys.length) = false := by rw [← l1, ← l2]; simp
  unfold difD
  rw [l, Bool.false_or]
  match xs, ys, h1, h2 with
  | [], _, _, _ => rfl
  | _ :: _, [], _, _ => rfl
  | x :: _, y :: _, .cons a1 _, .cons a2 _ =>
    show ((x.tag != y.tag) && (x.tag != 0 && y.tag != 0)) = false
    by_cases z1 : x.tag = 0
    · simp [z1]
    · by_cases z2 : y.tag = 0
      · simp [z2]
      · have : x.tag = y.tag := (R.tag a1 z1).symm.trans (R.tag a2 z2)
        simp [this]
theorem free_lf {d : D} (h : D.free d = .ok d) : D.lf d = true := by
  by_cases q : D.lf d = true
  · exact q
  · rw [show D.free d = .bug from if_neg q] at h
    cases h
theorem R.hideX {ys : List D} {d : D} {v : V} (hp : G p = some (.lst us)) (ry : RL K ca G us ys) (hf : D.freeX ys d = .ok d) (h : R K ca G v d) : R K ca (Lk.hide p G) v d := by
  cases d with
  | lst zs =>
    have q : (D.lfL zs && difD zs ys) = true := by
      by_cases q : (D.lfL zs && difD zs ys) = true
      · exact q
      · rw [show D.freeX ys (.lst zs) = .bug from if_neg q] at hf
        cases hf
    rw [Bool.and_eq_true] at q
    cases h with
    | lst h1 h2 =>
      refine .lst ?_ (RL.hide hp q.1 h2)
      rcases h1 with (h1 | ⟨o, h1⟩) | h1
      · refine .inl (.inl ?_)
        rw [hide_ne ?_]
        · exact h1
        · intro e
          rw [e, hp] at h1
          cases h1
          have := RL.dif h2 ry
          rw [q.2] at this
          cases this
      · exact .inl (.inr ⟨o, by rw [hide_ne (fun e => by rw [e, hp] at h1; cases h1)]; exact h1⟩)
      · exact .inr h1
  | non => exact R.hide hp (free_lf hf) h
  | bl _ => exact R.hide hp (free_lf hf) h
  | int _ => exact R.hide hp (free_lf hf) h
  | str _ => exact R.hide hp (free_lf hf) h
  | tup _ => exact R.hide hp (free_lf hf) h
  | ins _ _ => exact R.hide hp (free_lf hf) h
  | dic _ => exact R.hide hp (free_lf hf) h
  | any => exact R.hide hp (free_lf hf) h
end
section
variable {X : Cx} {ca : Nat → Addr} {W : WX} {ρ : Env} {e : Expr} {i : Nat} {rr : Option V} {xs : List D} {α : Type}
/-- the state with the list lent, what it holds told -/
theorem lendX {K : PySem.W.Frag} {σ : L2.St} {Hb G H : Hp} {m : Res α} {P P2 : α → Hp → Hp → Prop} (ho : ρ[i]? = some (some (.ol rr xs))) (h : Cr K ca W ρ σ Hb G H m P)
    (hk : ∀ p us a G' H', m = .ok a → G' p = some (.lst us) → RL K ca G' us xs → P a (hide p G') H' → P2 a G' H') : ∃ G2, Cr K ca W (ρ.set i (some (.d (.lst xs)))) σ Hb G2 H m P2 := by
  obtain ⟨f, E, hf⟩ := h.env
  obtain ⟨p, us, hσ, hp, rl, fp, _⟩ := E.own ho
  have gp := (E.out i p fp).1
  have s1 : Same G (upd G p (.lst us)) := fun a u z => by rw [upd_ne (ne_of_none z gp)]; exact z
  have s2 : Same (upd G p (.lst us)) H := fun a u z => by
    by_cases e : a = p
    · subst e
      rw [upd_same] at z
      rw [hp]; exact z
    · rw [upd_ne e] at z
      exact E.sub a u z
  have E2 : EnvOk K ca (upd G p (.lst us)) H σ (ρ.set i (some (.d (.lst xs)))) (fun j => if j = i then none_ else f j) := by
    refine ⟨s2, fun j o hj => ?_, fun j k a h1 h2 => ?_, fun j a h1 => ?_⟩
    · by_cases e : j = i
      · subst e
        have hl : j < (ρ.set j (some (.d (.lst xs)))).length := (List.getElem?_eq_some_iff.mp hj).1
        rw [List.length_set] at hl
        rw [List.getElem?_set_self hl] at hj
        cases hj
        exact ⟨_, hσ, .d (.lst (.inl (.inl upd_same)) (rl.mono s1))⟩
      · rw [List.getElem?_set_ne (Ne.symm e)] at hj
        obtain ⟨w, z1, z2⟩ := E.slot j o hj
        exact ⟨w, z1, by simpa [e] using z2.mono s1 fun a u _ z => z⟩
    · by_cases e1 : j = i
      · simp only [e1, if_true] at h1
        exact h1.elim
      · by_cases e2 : k = i
        · simp only [e2, if_true] at h2
          exact h2.elim
        · simp only [e1, e2, if_false] at h1 h2
          exact E.sep j k a h1 h2
    · by_cases e1 : j = i
      · simp only [e1, if_true] at h1
        exact h1.elim
      · simp only [e1, if_false] at h1
        obtain ⟨z1, z2⟩ := E.out j a h1
        refine ⟨?_, z2⟩
        rw [upd_ne (fun z => e1 (E.sep j i a h1 (by rw [z]; exact fp)))]
        exact z1
  have back : ∀ {G' H' : Hp}, Gb Hb (upd G p (.lst us)) H G' H' → Gb Hb G H (hide p G') H' ∧ G' p = some (.lst us) ∧ RL K ca G' us xs := fun {G' H'} g => by
    refine ⟨⟨fun a u z => ?_, fun a u z => ?_, g.h, fun a u z => ?_⟩, g.g _ _ upd_same, (rl.mono s1).mono g.g⟩
    · have ne : a ≠ p := ne_of_none z gp
      rw [hide_ne ne]
      exact g.g a u (s1 a u z)
    · by_cases e : a = p
      · rw [e, hide_same] at z; cases z
      · rw [hide_ne e] at z
        exact g.sub a u z
    · by_cases e : a = p
      · rw [e, hide_same] at z; cases z
      · rw [hide_ne e] at z
        rcases g.new a u z with q | q
        · rw [upd_ne e] at q
          exact .inl q
        · exact .inr q
  refine ⟨upd G p (.lst us), h.sb, ⟨_, E2, fun j a z => ?_⟩, h.nb, fun a e G' H' g => hk p us a G' H' e (back g).2.1 (back g).2.2 (h.ok a e _ H' (back g).1), fun c e G' H' g => h.ex c e _ H' (back g).1⟩
  by_cases e1 : j = i
  · simp only [e1, if_true] at z
    exact z.elim
  · simp only [e1, if_false] at z
    exact hf j a z
theorem free_bug {d : D} (h : D.free d ≠ .ok d) : D.free d = .bug := by
  by_cases q : D.lf d = true
  · exact absurd (if_pos q) h
  · exact if_neg q
theorem freeX_bug {ys : List D} {d : D} (h : D.freeX ys d ≠ .ok d) : D.freeX ys d = .bug := by
  cases d with
  | lst zs =>
    by_cases q : (D.lfL zs && difD zs ys) = true
    · exact absurd (if_pos q) h
    · exact if_neg q
  | non => exact free_bug (d := .non) h
  | bl x => exact free_bug (d := .bl x) h
  | int x => exact free_bug (d := .int x) h
  | str x => exact free_bug (d := .str x) h
  | tup x => exact free_bug (d := .tup x) h
  | ins x y => exact free_bug (d := .ins x y) h
  | dic x => exact free_bug (d := .dic x) h
  | any => exact free_bug (d := .any) h
/-- an expression that reads a list of one's own, and may hand back another -/
theorem e_lendX {m : Res D} (ho : ρ[i]? = some (some (.ol rr xs))) (h : PE X e (tD X.K ca W (ρ.set i (some (.d (.lst xs)))) m)) : PE X e (tD X.K ca W ρ (m >>= fun d => D.freeX xs d)) :=
  PE.of h fun σ H Q ⟨Hb, G, hq⟩ => by
    obtain ⟨G2, h2⟩ := lendX ho (hq.cut (P := fun d G' H' => D.freeX xs d = .ok d ∧ ∀ v, R X.K ca G' v d → Q v H') fun d G1 H1 e g h1 => by
      by_cases hl : D.freeX xs d = .ok d
      · rw [hl] at h1
        exact ⟨hl, h1.done⟩
      · exact (h1.nb (freeX_bug hl)).elim) (P2 := fun d G' H' => ∀ v, R X.K ca G' v d → Q v H') (fun p us d G' H' _ hp ry q v rv => q.2 v (rv.hideX hp ry q.1))
    exact ⟨Hb, G2, h2⟩
end
/-! ### one list lent: told by its new items -/
section
variable {X : Cx} {ca : Nat → Addr} {W : WX} {ρ : Env} {ρx : EX} {α : Type} {out : α → O} {e : Expr} {j : Nat} {r : Option V} {M : Res (EO α (List O))}
theorem x_oneq (h : PE X e (tX X.K ca W ρx (putS ρ [j] [r]) out ρ M)) : PE X e (tX X.K ca W ρx (fun xs => ρ.set j (some (.ol r xs))) out ρ (M >>= EO.then_ fun a os => unq1 (fun xs => .ok (.va a xs)) os)) :=
  PE.of h fun σ H Q ⟨G, f, E, z⟩ => ⟨G, f, E, ⟨fun z1 => z.nb (by rw [z1]; rfl), fun a os ea G' H' f' g v ev E1 ow fr => by
    by_cases q : ∃ xs, os = [.ol none xs]
    · obtain ⟨xs, rfl⟩ := q
      have E2 : EnvOk X.K ca G' H' σ (ρ.set j (some (reO r (.ol none xs)))) f' := E1
      rw [reO_ol] at E2
      exact z.va a xs (by rw [ea]; rfl) G' H' f' g v ev E2 ow fr
    · refine (z.nb ?_).elim
      rw [ea]
      show unq1 (fun xs => Res.ok (EO.va a xs)) os = .bug
      unfold unq1
      split
      · rename_i xs
        exact (q ⟨xs, rfl⟩).elim
      · rfl, fun c ec G' H' f' v E1 => z.ex c (by rw [ec]; rfl) G' H' f' v E1, fun c os ec G' H' f' v E1 => z.ra c os (by rw [ec]; rfl) G' H' f' v E1⟩⟩
end
/-! ### the least of a list of numbers -/
def least : List Int → Int
  | [] => 0
  | [n] => n
  | n :: ns => if n ≤ least ns then n else least ns
theorem least_mem : ∀ {ns : List Int}, ns ≠ [] → least ns ∈ ns ∧ ∀ y ∈ ns, least ns ≤ y
  | [], h => (h rfl).elim
  | [n], _ => ⟨List.mem_cons_self, fun y hy => by cases List.mem_singleton.mp hy; exact Int.le_refl _⟩
  | n :: m :: ns, _ => by
    obtain ⟨h1, h2⟩ := least_mem (ns := m :: ns) (by simp)
    show (if n ≤ least (m :: ns) then n else least (m :: ns)) ∈ _ ∧ ∀ y ∈ n :: m :: ns, (if n ≤ least (m :: ns) then n else least (m :: ns)) ≤ y
    by_cases q : n ≤ least (m :: ns)
    · rw [if_pos q]
      refine ⟨List.mem_cons_self, fun y hy => ?_⟩
      rcases List.mem_cons.mp hy with rfl | hy
      · exact Int.le_refl _
      · exact Int.le_trans q (h2 y hy)
    · rw [if_neg q]
      refine ⟨List.mem_cons_of_mem _ h1, fun y hy => ?_⟩
      rcases List.mem_cons.mp hy with rfl | hy
      · omega
      · exact h2 y hy
def D.minL : List D → Res D := one fun
  | .lst xs => (match D.ints xs with | some (n :: ns) => .ok (.int (least (n :: ns))) | _ => .bug)
  | _ => .bug
theorem minL_ints {ns : List Int} (h : ns ≠ []) : D.minL [.lst (ns.map D.int)] = .ok (.int (least ns)) := by
  match ns, h with
  | n :: ns, _ =>
    have e : D.ints ((n :: ns).map D.int) = some (n :: ns) := ints_map _
    show (match D.ints ((n :: ns).map D.int) with | some (n :: ns) => Res.ok (D.int (least (n :: ns))) | _ => .bug) = _
    rw [e]
theorem l_minL {K : PySem.W.Frag} {ca : Nat → Addr} : LiftA K ca (rMin K) D.minL := by
  intro Hb G H vs xs Q sb s r nb h
  obtain ⟨x, v, rfl, rfl, r1⟩ := RL.one nb r
  cases x <;> try exact (nb rfl).elim
  rename_i ys
  cases e : D.ints ys with
  | none => exact (nb (by simp [D.minL, one, e])).elim
  | some ns =>
    cases ns with
    | nil => exact (nb (by simp [D.minL, one, e])).elim
    | cons n ns =>
      have e' := ints_inv e
      subst e'
      cases r1 with
      | lst q1 q2 =>
        have e2 := q2.ints_inv
        subst e2
        refine ⟨_, n :: ns, rfl, Same.sqL s q1, by simp, fun m hm hle => ?_⟩
        obtain ⟨h1, h2⟩ := least_mem (ns := n :: ns) (by simp)
        have em : m = least (n :: ns) := Int.le_antisymm (hle _ h1) (h2 _ hm)
        subst em
        exact h _ _ _ (minL_ints (by simp)) (.refl s) _ (.int _)
/-! ### [..] * 4 -/
section
variable {X : Cx} {ca : Nat → Addr} {W : WX} {ρ : Env} {a : Expr} {pos : Pos} {ma : Res (List D)}
theorem e_repC {k : Int} {j p} (ha : PE X a (tL X.K ca W ρ ma)) :
    PE X (.BinOp a .Mult (.Constant (.int k) j p) pos) (tL X.K ca W ρ (ma >>= fun xs => D.rep xs (.int k))) :=
  PE.of (pe_op op_rep ha pe_int) fun σ H Q ⟨Hb, G, h0⟩ => ⟨Hb, G, h0.cut fun xs G1 H1 _ g1 h1 q vs hq gq hh rl => by
    by_cases z : (-(2 ^ 62) ≤ k ∧ k < 2 ^ 62) ∧ xs.length * k.toNat ≤ 100000
    · have er : D.rep xs (.int k) = .ok (List.replicate k.toNat xs).flatten := if_pos z
      refine ⟨q, k, vs, rfl, rfl, hh, by omega, by omega, Nat.le_trans (by rw [rl.length]; exact z.2) (by decide), fun p2 hp2 => ?_⟩
      exact h1.ok _ er _ _ (Gb.own h1.sub hp2) p2 _ (h1.sb.free hp2) (h1.sub.free hp2) upd_same (rl.rep k.toNat)
    · exact (h1.nb (if_neg z)).elim⟩
theorem e_repE {b : Expr} {mb : Res D} (ha : PE X a (tL X.K ca W ρ ma)) (hb : PE X b (tD X.K ca W ρ mb)) :
    PE X (.BinOp a .Mult b pos) (tL X.K ca W ρ (ma >>= fun xs => mb >>= fun y => D.rep xs y)) :=
  PE.of (pe_op op_rep ha hb) fun σ H Q ⟨Hb, G, h0⟩ => ⟨Hb, G, h0.cut fun xs G1 H1 _ g1 h1 q vs hq gq hh rl => ⟨Hb, G1, h1.cut fun y G2 H2 _ g2 h2 w rw' => by
    cases y with
    | int k =>
      cases rw'
      by_cases z : (-(2 ^ 62) ≤ k ∧ k < 2 ^ 62) ∧ xs.length * k.toNat ≤ 100000
      · have er : D.rep xs (.int k) = .ok (List.replicate k.toNat xs).flatten := if_pos z
        have rl2 := rl.mono g2.g
        refine ⟨q, k, vs, rfl, rfl, g2.h _ _ hh, by omega, by omega, Nat.le_trans (by rw [rl2.length]; exact z.2) (by decide), fun p2 hp2 => ?_⟩
        exact h2.ok _ er _ _ (Gb.own h2.sub hp2) p2 _ (h2.sb.free hp2) (h2.sub.free hp2) upd_same (rl2.rep k.toNat)
      · exact (h2.nb (if_neg z)).elim
    | _ => exact (h2.nb rfl).elim⟩⟩
end
end Lk
namespace Lk
open PySem PySem.Spec PyProof.Rows L2
def putF {α : Type} (k : Str) (d : α) (p : Str × α) : Str × α := if p.1 = k then (p.1, d) else p
/-- d[k] = v, the key being there -/
def setDR (fs : List (Str × D)) (y d : D) : Res (List (Str × D)) := match y with
  | .str k => if (fs.lookup k).isSome = true ∧ fs.length ≤ 1000 then .ok (fs.map (putF k d)) else .bug
  | _ => .bug
section
variable {K : PySem.W.Frag} {ca : Nat → Addr} {G H : Hp}
theorem RF.length : ∀ {fs : List (Str × D)} {fvs : List (Str × V)}, RF K ca G fvs fs → fvs.length = fs.length
  | [], _, h => by cases h; rfl
  | _ :: _, _, h => by cases h with | cons _ h2 => simp [RF.length h2]
theorem RF.putF {k : Str} {d : D} {v : V} (r : R K ca G v d) : ∀ {fs : List (Str × D)} {fvs : List (Str × V)}, RF K ca G fvs fs → RF K ca G (fvs.map (Lk.putF k v)) (fs.map (Lk.putF k d))
  | [], _, h => by cases h; exact .nil
  | (n, x) :: fs, _, h => by
    cases h with
    | @cons _ u us _ _ h1 h2 =>
      rw [List.map_cons, List.map_cons]
      unfold Lk.putF
      by_cases q : n = k
      · rw [if_pos q, if_pos q]; exact .cons r (RF.putF r h2)
      · rw [if_neg q, if_neg q]; exact .cons h1 (RF.putF r h2)
theorem putK_map {k : Str} {v : V} {fvs : List (Str × V)} (h : (valV (fvs.map kI) (Sum.inr k : Key)).isSome = true) : putK (fvs.map kI) (Sum.inr k : Key) v = (fvs.map (Lk.putF k v)).map kI := by
  unfold putK
  rw [valV_any, if_pos h, List.map_map, List.map_map]
  refine List.map_congr_left fun p _ => ?_
  obtain ⟨n, u⟩ := p
  show (if (Sum.inr n : Key) = Sum.inr k then ((Sum.inr n : Key), v) else (Sum.inr n, u)) = kI (Lk.putF k v (n, u))
  unfold Lk.putF
  by_cases q : n = k
  · rw [if_pos q, if_pos (by rw [q])]
  · rw [if_neg q, if_neg (fun z => q (by injection z))]
theorem EnvOk.ownD {σ : L2.St} {ρ : Env} {i : Nat} {f : Nat → AS} {fs : List (Str × Lk.D)} (E : EnvOk K ca G H σ ρ f) (h : ρ[i]? = some (some (.od fs))) : ∃ p fvs, σ[i]? = some (some (.ref p)) ∧ H p = some (.dK (fvs.map kI)) ∧ RF K ca G fvs fs ∧ f i p := by
  obtain ⟨v, q1, q2⟩ := E.slot i _ h
  cases q2 with
  | od a b c => exact ⟨_, _, q1, a, b, c⟩
theorem EnvOk.changeD {σ : L2.St} {ρ : Env} {i : Nat} {f : Nat → AS} (E : EnvOk K ca G H σ ρ f) {p : Addr} {fvs : List (Str × V)} {fs : List (Str × Lk.D)} (fp : f i p) (rl : RF K ca G fvs fs) (hv : σ[i]? = some (some (.ref p))) :
    EnvOk K ca G (upd H p (.dK (fvs.map kI))) σ (ρ.set i (some (.od fs))) f ∧ Evo G H (All f) G (upd H p (.dK (fvs.map kI))) (All f) := by
  have gp := (E.out i p fp).1
  have sub : Same G (upd H p (.dK (fvs.map kI))) := fun a u z => by rw [upd_ne (ne_of_none z gp)]; exact E.sub a u z
  refine ⟨⟨sub, fun j u hj => ?_, E.sep, fun j a h1 => ?_⟩, ⟨Same.refl _, sub, fun a u z nf => ?_, fun a u z => .inl z, fun a z => .inl z⟩⟩
  · by_cases e : j = i
    · subst e
      have hl : j < (ρ.set j (some (.od fs))).length := (List.getElem?_eq_some_iff.mp hj).1
      rw [List.length_set] at hl
      rw [List.getElem?_set_self hl] at hj
      cases hj
      exact ⟨_, hv, .od upd_same rl fp⟩
    · rw [List.getElem?_set_ne (Ne.symm e)] at hj
      obtain ⟨v, q1, q2⟩ := E.slot j u hj
      exact ⟨v, q1, q2.mono (Same.refl _) fun a u' fa z => by
        rw [upd_ne (fun q => e (E.sep j i a fa (by rw [q]; exact fp)))]; exact z⟩
  · obtain ⟨z1, z2⟩ := E.out j a h1
    refine ⟨z1, ?_⟩
    by_cases q : a = p
    · rw [q]; exact ⟨_, upd_same⟩
    · rw [upd_ne q]; exact z2
  · rw [upd_ne (fun q => nf (by rw [q]; exact ⟨i, fp⟩))]; exact z
end
section
variable {X : Cx} {ca : Nat → Addr} {S B T : Type} {W : WX} {ρ : Env} {ρx : EX} {emb : S → Env} {embB : B → Env} {out : T → RtP} {i : Nat} {n : Str} {e b : Expr} {rest : List Stmt} {ma mb : Res D} {pos p0 : Pos}
/-- d[k] of a dict of one's own -/
theorem e_ownGetD {fs : List (Str × D)} (hu : X.A.units + 64 < cLine) (hN : X.N[i]? = some n) (hv : Vis X.env.scope n) (hd : (n == ("__debug__" : Str)) = false) (hcd : (n == ("__classdict__" : Str)) = false) (ho : ρ[i]? = some (some (.od fs)))
    (hb : PE X b (tD X.K ca W ρ mb)) (hs : NoSl b := by intro _ _; rfl) : PE X (.Subscript (.Name n p0) b pos) (tD X.K ca W ρ (mb >>= fun y => D.getD (.dic fs) y)) :=
  PE.of (pe_dget (by omega) (pe_var hN hv hd hcd) hb hs) fun σ H Q ⟨Hb, G, h⟩ => by
    obtain ⟨f, E, hf⟩ := h.env
    obtain ⟨p, fvs, hσ, hp, rl, fp⟩ := E.ownD ho
    refine ⟨.ref p, hσ, Hb, G, h.cut fun y G1 H1 _ g1 h1 w rw' => ?_⟩
    cases y with
    | str k =>
      cases rw'
      cases hl : fs.lookup k with
      | none => exact (h1.nb (by show Res.opt (fs.lookup k) = _; rw [hl]; rfl)).elim
      | some d =>
        obtain ⟨v, hv', rv'⟩ := RF.look rl hl
        refine ⟨_, v, rfl, ?_, ?_⟩
        · rw [← hv']
          exact DGet.k (k := Sum.inr k) (g1.h _ _ hp)
        · exact h1.ok d (by show Res.opt (fs.lookup k) = _; rw [hl]; rfl) _ _ (.refl h1.sub) v (rv'.mono g1.g)
    | _ => exact (h1.nb rfl).elim
/-- d[k] = v of one -/
theorem s_setDic {spos : Pos} {fs : List (Str × D)} {k : List (Str × D) → Res (Out S B T)} (hu : X.A.units + 64 < cLine) (hN : X.N[i]? = some n) (hv : Vis X.env.scope n) (hd : (n == ("__debug__" : Str)) = false) (hcd : (n == ("__classdict__" : Str)) = false)
    (ho : ρ[i]? = some (some (.od fs))) (he : PE X e (tD X.K ca W ρ ma)) (hb : PE X b (tD X.K ca W ρ mb)) (le : Env.le ρx.e ρ) (h : ∀ ys, PSs X rest (tS X.K ca W ρx emb embB out (ρ.set i (some (.od ys))) (k ys)))
    (hs : swapsWith e (some (.Subscript (.Name n p0) b spos)) pos.line X.env = pure false := by rfl) :
    PSs X (.Assign [.Subscript (.Name n p0) b spos] e pos :: rest) (tS X.K ca W ρx emb embB out ρ (ma >>= fun d => mb >>= fun y => setDR fs y d >>= k)) :=
  PSs.of (pss_cons (ps_dput (by omega) (pe_var hN hv hd hcd) hb he hs) (PSs.any h)) fun D σ H ⟨G, f, E, hq⟩ => by
    obtain ⟨p, fvs, hσ, hp, rl, fp⟩ := E.ownD ho
    refine ⟨H, G, hq.expr E le fun d G1 H1 ea g E1 h1 w rw' => ?_⟩
    refine ⟨.ref p, hσ, H1, G1, h1.expr E1 le fun y G2 H2 eb g2 E2 h2 u ru => ?_⟩
    cases y with
    | str key =>
      cases ru
      by_cases q : (fs.lookup key).isSome = true ∧ fs.length ≤ 1000
      · have e2 : setDR fs (.str key) d = .ok (fs.map (putF key d)) := if_pos q
        rw [e2] at h2
        obtain ⟨d0, hd0⟩ := Option.isSome_iff_exists.mp q.1
        obtain ⟨v0, hv0, _⟩ := RF.look rl hd0
        have hp2 := g2.h _ _ (g.h _ _ hp)
        have pm := putK_map (k := key) (v := w) (fvs := fvs) (by rw [hv0]; rfl)
        obtain ⟨E3, v3⟩ := E2.changeD fp (RF.putF (k := key) (rw'.mono g2.g) (rl.mono (g.g.trans g2.g))) hσ
        refine ⟨p, _, rfl, DPut.k (k := Sum.inr key) hp2 (by rw [List.length_map, RF.length rl, sizeLine_eq]; omega), fs.map (putF key d), ?_⟩
        rw [pm]
        exact ⟨G2, f, E3, h2.on v3⟩
      · exact (h2.nb (by show (setDR fs (.str key) d >>= k) = _; rw [show setDR fs (.str key) d = .bug from if_neg q]; rfl)).elim
    | _ => exact (h2.nb rfl).elim
end
section
variable {X : Cx} {ca : Nat → Addr} {W : WX} {ρ : Env} {pos p : Pos} {o v : Expr} {mo mv : Res D} {ms : Res (List D)} {ks : List (Option Expr)} {vs : List Expr} {names : List Str}
/-- {..}, of the asker's own -/
theorem e_dicO (h : PD X ca W ρ pos ks vs names ms) (hall : ks.all (·.isSome) = true := by rfl) (hl : ks.length = vs.length := by rfl) (h0 : ks ≠ [] := by simp) (h15 : ks.length ≤ 15 := by decide) (hn : names.Nodup := by decide +kernel) (hn2 : names.length ≤ 15 := by decide) :
    PE X (.Dict ks vs pos) (tO X.K ca W ρ ((ms >>= fun xs => .ok (names.zip xs)) >>= fun fs => .ok (.od fs))) := by
  obtain ⟨len, trs, h1, h2⟩ := h
  refine PE.of (pe_disp h1 hall hl h0 h15) fun σ H Q ⟨Hb, G, c⟩ p hp => ?_
  obtain ⟨f, E, hf⟩ := c.env
  have hbp : Hb p = none := by
    cases z : Hb p with
    | none => rfl
    | some u => rw [c.sb _ _ z] at hp; cases hp
  have gp : G p = none := by
    cases z : G p with
    | none => rfl
    | some u => rw [E.sub _ _ z] at hp; cases hp
  have s0 : Same H (upd H p (.dK [])) := fun a u z => by
    rw [upd_ne (fun q => by rw [q, hp] at z; cases z)]; exact z
  have g0 : Gb Hb G H G (upd H p (.dK [])) := ⟨Same.refl _, E.sub.trans s0, s0, fun a u z => .inl z⟩
  have sb' : Same (upd Hb p (.dK [])) (upd H p (.dK [])) := fun a u z => by
    by_cases q : a = p
    · subst q; rw [upd_same] at z ⊢; exact z
    · rw [upd_ne q] at z ⊢; exact c.sb _ _ z
  have conv : ∀ {G1 H1 : Hp}, Gb (upd Hb p (.dK [])) G (upd H p (.dK [])) G1 H1 → Gb Hb G H G1 H1 := fun {G1 H1} g => ⟨g.g, g.sub, s0.trans g.h, fun a u z => (g.new a u z).elim .inl fun q => .inr (by
    by_cases e : a = p
    · rw [e]; exact hbp
    · rw [upd_ne e] at q; exact q)⟩
  refine h2 σ _ _ ⟨upd Hb p (.dK []), G, ⟨sb', ⟨f, E.gb hf g0, fun i a z => ?_⟩, fun z => c.nb (by rw [z]; rfl), fun ds e G1 H1 g1 us rus => ?_, fun cc e G1 H1 g1 => c.ex cc (by rw [e]; rfl) G1 H1 (conv g1)⟩⟩
  · obtain ⟨u, q⟩ := hf i a z
    exact ⟨u, by rw [upd_ne (fun q2 => by rw [q2, hbp] at q; cases q)]; exact q⟩
  · have hp1 : H1 p = some (.dK []) := g1.h _ _ upd_same
    have lu : us.length = names.length := by rw [rus.length, len ds e]
    have ek : mergeK [] ((names.zip us).map kI) = (names.zip us).map kI := by
      rw [mergeK_nodup _ _ (fun p hp => by cases hp) (by rw [zip_keys, zip_fst lu]; exact inr_nodup hn)]
      rfl
    have g1p : G1 p = none := by
      cases z : G1 p with
      | none => rfl
      | some u =>
        rcases g1.new p u z with q | q
        · rw [gp] at q; cases q
        · rw [upd_same] at q; cases q
    refine ⟨hp1, (names.zip us).map kI, by rw [List.map_map]; rfl, by rw [List.length_map, List.length_zip]; omega, ?_⟩
    rw [ek]
    refine c.ok (.od (names.zip ds)) (by rw [e]; rfl) G1 _ ⟨g1.g, fun a u z => ?_, fun a u z => ?_, (conv g1).new⟩ (.ref p) (fun a => a = p) (.od upd_same (RF.zip rus) rfl) fun a z => ?_
    · rw [upd_ne (fun q => by rw [q, g1p] at z; cases z)]; exact g1.sub _ _ z
    · have ne : a ≠ p := fun q => by rw [q, hp] at z; cases z
      rw [upd_ne ne]
      exact g1.h _ _ (s0 _ _ z)
    · rw [z]
      exact ⟨hbp, g1p, _, upd_same⟩
theorem x_pureM {α : Type} {e : Expr} {ρx : EX} {m : Res α} {out : α → O} (h : PE X e (tO X.K ca W ρ (m >>= fun a => .ok (out a)))) (le : Env.le ρx.e ρ) : PE X e (tX X.K ca W ρx (fun _ : Unit => ρ) out ρ (m >>= fun a => .ok (.va a ()))) := by
  have q := x_pureO (ρx := ρx) h le
  refine PE.of q fun σ H Q ⟨G, f, E, z⟩ => ⟨G, f, E, ?_⟩
  cases m with
  | ok a => exact ⟨(fun z1 => by
      have z2 : (Res.ok (EO.va (out a) ()) : Res (EO O Unit)) = .bug := z1
      cases z2), (fun a' s ea G' H' f' g v ev E1 ow fr => by
      have e2 : (Res.ok (EO.va (out a) ()) : Res (EO O Unit)) = .ok (.va a' s) := ea
      cases e2
      exact z.va a () rfl G' H' f' g v ev E1 ow fr), (fun c ec => by
      have e2 : (Res.ok (EO.va (out a) ()) : Res (EO O Unit)) = .exc c := ec
      cases e2), (fun c os ec => by
      have e2 : (Res.ok (EO.va (out a) ()) : Res (EO O Unit)) = .ok (.ra c os) := ec
      cases e2)⟩
  | exc c0 => exact ⟨(fun z1 => by
      have z2 : (Res.exc c0 : Res (EO O Unit)) = .bug := z1
      cases z2), (fun a' s ea => by
      have e2 : (Res.exc c0 : Res (EO O Unit)) = .ok (.va a' s) := ea
      cases e2), (fun c ec => by
      have e2 : (Res.exc c0 : Res (EO O Unit)) = .exc c := ec
      cases e2
      exact z.ex c0 rfl), (fun c os ec => by
      have e2 : (Res.exc c0 : Res (EO O Unit)) = .ok (.ra c os) := ec
      cases e2)⟩
  | bug => exact (z.nb rfl).elim
end
end Lk
namespace Lk
open PySem PySem.Spec PyProof.Rows L2
def D.getO : D → D → D → Res D
  | .dic fs, .str k, x => .ok ((fs.lookup k).getD x)
  | _, _, _ => .bug
theorem RF.valN {K : PySem.W.Frag} {ca : Nat → Addr} {G : Hp} {k : Str} : ∀ {fs : List (Str × D)} {fvs : List (Str × V)}, RF K ca G fvs fs → fs.lookup k = none → valV (fvs.map kI) (Sum.inr k : Key) = none
  | [], _, h, _ => by cases h; rfl
  | (n, x) :: fs, _, h, e => by
    cases h with
    | @cons _ v vs _ _ h1 h2 =>
      by_cases q : k = n
      · subst q
        rw [List.lookup_cons, beq_self_eq_true] at e
        cases e
      · have ne : (k == n) = false := beq_eq_false_iff_ne.mpr q
        rw [List.lookup_cons, ne] at e
        rw [List.map_cons, valV_neg (p := kI (n, v)) (fun z => q (by injection z with z; exact z.symm))]
        exact RF.valN h2 e
def D.dicC : D → Res D
  | .dic fs => .ok (.dic fs)
  | _ => .bug
@[simp] theorem dicC_dic (fs : List (Str × D)) : D.dicC (.dic fs) = .ok (.dic fs) := rfl
section
variable {X : Cx} {ca : Nat → Addr} {W : WX} {ρ : Env} {apos cpos : Pos} {o e f : Expr} {mo mi mx : Res D}
/-- d.get(k, x) -/
theorem e_getO (hu : X.A.units + 64 < cLine) (ho : PE X o (tD X.K ca W ρ mo)) (hi : PE X e (tD X.K ca W ρ mi)) (hx : PE X f (tD X.K ca W ρ mx))
    (m : M2 X o "get" apos e f cpos := by exact ⟨rfl, rfl, rfl, rfl⟩) :
    PE X (.Call (.Attribute o "get" apos) [e, f] [] cpos) (tD X.K ca W ρ (mo >>= fun x => D.dicC x >>= fun x => mi >>= fun y => mx >>= fun z => D.getO x y z)) :=
  PE.of (pe_dget2 (by omega) ho hi hx m) fun σ H Q ⟨Hb, G, h⟩ => ⟨Hb, G, h.cut fun x G1 H1 _ g1 h1 v rv => by
    cases x with
    | dic fs =>
      cases rv with
      | @dic a fvs _ q1 q2 =>
        rw [dicC_dic, bind_ok] at h1
        refine ⟨_, rfl, .inl ⟨_, .of (h1.sub _ _ q1)⟩, Hb, G1, h1.cut fun y G2 H2 _ g2 h2 w rw' => ⟨Hb, G2, h2.cut fun z G3 H3 _ g3 h3 u ru => ?_⟩⟩
        cases y with
        | str k =>
          cases rw'
          refine ⟨valV (fvs.map kI) (Sum.inr k : Key), DGet.k (k := Sum.inr k) (h3.sub _ _ (g3.g _ _ (g2.g _ _ q1))), ?_⟩
          cases hl : fs.lookup k with
          | none =>
            rw [RF.valN q2 hl]
            exact h3.ok z (by show Res.ok ((fs.lookup k).getD z) = _; rw [hl]; rfl) G3 H3 (.refl h3.sub) u ru
          | some d =>
            obtain ⟨v, hv, rv'⟩ := RF.look q2 hl
            rw [hv]
            exact h3.ok d (by show Res.ok ((fs.lookup k).getD z) = _; rw [hl]; rfl) G3 H3 (.refl h3.sub) v ((rv'.mono g2.g).mono g3.g)
        | _ => exact (h3.nb rfl).elim
    | _ => exact (h1.nb rfl).elim⟩
end
end Lk
namespace Lk
open PySem PySem.Spec PyProof.Rows L2
section
variable {prog : Program} {w : World} {A : Around} {R : Result → Shared → Prop} {I : Addr} {fp wr : List Addr} {G : Array GenState → Array GenState → Prop} {n : Nat} {P : Nat → Value → Prop} {St : Nat → Shared → Prop}
/-- each text is put in once -/
theorem fill_texts (W : WalksS prog w A.in1 I fp wr G n P St) (S : Addr) (hSf : S ∉ fp) (xs : List Str) (hsz : xs.length = n) (nd : xs.Nodup) (hb : n + 1 < scanBound)
    (hval : ∀ i v, P i v → ∃ t, v = .str (xs.getD i Str.empty) t) :
    ∀ (k i : Nat) (s : Shared), n - i = k → i ≤ n → St i s →
      s.heap.SetOf (PySem.strKind prog w) S (fun k' => (xs.take i).any (· == k')) i →
      (∀ s', Moved (S :: wr) G s s' → s'.heap.SetOf (PySem.strKind prog w) S (fun k' => (xs.take n).any (· == k')) n → R (.ok (.ret .none)) s') →
      codeAny (model prog w) A (.builtin "set.update.loop" ⟨[.ref S, .ref I], []⟩) R s := by
  have hSw : S ∉ wr := fun h => hSf (W.sub _ h)
  have hsub : ∀ b ∈ wr, b ∈ S :: wr := fun b hb => List.mem_cons_of_mem _ hb
  intro k
  induction k with
  | zero =>
    intro i s hk hi hst hS hR
    obtain rfl : i = n := by omega
    refine codeAny_builtin PyProof.Rows.F.entry_set_update_loop ?_
    rw [Around.under_plainId PyProof.Rows.F.plain_set_update_loop _]
    show wpAny _ A.in1 (pyNext (.ref I) >>= _) _ _ s
    refine wpAny_bind (W.done s _ _ hst fun s' hm => ?_)
    show wpAny _ A.in1 (ret Value.none) _ _ s'
    refine wpAny_pure (hR s' (hm.mono hsub) ?_)
    obtain ⟨o, es, ep, t, ho, rest⟩ := hS
    exact ⟨o, es, ep, t, hm.heap S _ hSw ho, rest⟩
  | succ k ih =>
    intro i s hk hi hst hS hR
    have hlt : i < n := by omega
    have hix : i < xs.length := by omega
    refine codeAny_builtin PyProof.Rows.F.entry_set_update_loop ?_
    rw [Around.under_plainId PyProof.Rows.F.plain_set_update_loop _]
    show wpAny _ A.in1 (pyNext (.ref I) >>= _) _ _ s
    refine wpAny_bind (W.item i s _ _ hlt hst fun v s' hP hst' hm => ?_)
    obtain ⟨t, rfl⟩ := hval i v hP
    have eg : xs.getD i Str.empty = xs[i] := by rw [List.getD_eq_getElem?_getD, List.getElem?_eq_getElem hix]; rfl
    have hS' : s'.heap.SetOf (PySem.strKind prog w) S (fun k' => (xs.take i).any (· == k')) i := by
      obtain ⟨o, es, ep, tb, ho, rest⟩ := hS
      exact ⟨o, es, ep, tb, hm.heap S _ hSw ho, rest⟩
    show wpAny _ A.in1 (holding [Value.str (xs.getD i Str.empty) t] (setAdd S (.str (xs.getD i Str.empty) t)) >>= _) _ _ s'
    refine wpAny_bind (wpAny_holding ?_)
    unfold setAdd
    refine wpAny_holding ?_
    refine wpAny_bind ((PySem.strKind prog w).pyHash (k := xs.getD i Str.empty) (strKind_is _ _ _ _) ?_)
    refine wpAny_setAddHashed_of (knd := PySem.strKind prog w) (s := { s' with toks := s'.toks + 1 }) (strKind_is _ _ _ _) rfl hS' (by omega) fun h' hsb hS2 => ?_
    have new : (xs.take i).any (· == xs.getD i Str.empty) = false := by
      rw [eg, List.any_eq_false]
      intro y hy q
      have h2 := nd.sublist (List.take_sublist (i + 1) xs)
      rw [← List.take_append_getElem hix, List.nodup_append] at h2
      exact h2.2.2 y hy _ (List.mem_singleton.mpr rfl) (by simpa using q)
    have hSi : h'.SetOf (PySem.strKind prog w) S (fun k' => (xs.take (i + 1)).any (· == k')) (i + 1) := by
      refine SetOf_congr hS2 (fun k' => ?_) (by rw [new]; rfl)
      rw [← List.take_append_getElem hix, List.any_append, eg]
      by_cases e : k' = xs[i]
      · subst e; simp
      · have h1 : (xs[i] == k') = false := beq_eq_false_iff_ne.mpr fun z => e z.symm
        simp [h1, e]
    refine wpAny_pure ⟨plainId_quiet PyProof.Rows.F.plain_set_update_loop _, ih (i + 1) _ (by omega) hlt (W.frame _ s' _ _ hst' (Nat.le_succ _) fun b hb o e => ?_) hSi fun s'' hm'' hS'' => ?_⟩
    · rw [hsb.2 b fun h : b = S => hSf (h ▸ hb)]; exact e
    · refine hR s'' (Moved.trans W.gtrans ((hm.mono hsub).then_heap (Nat.le_succ _) fun b o hb e => ?_) hm'') hS''
      rw [hsb.2 b fun h : b = S => hb (h ▸ List.mem_cons_self)]; exact e
end
section
variable {prog : Program} {w : World} {A : Around} {E : Value → Shared → Prop} {s : Shared}
abbrev set0 (led : Bool) : Obj := { cls := .type "set", dict := none, data := .set #[] 0 (.fresh 0 0 led) }
/-- set(l), l a list of unlike texts -/
theorem call_set_texts {l : Addr} {items : Array Value} {xs : List Str} {Q : Value → Shared → Prop}
    (hh : A.handled = none) (hl : s.heap.IsList l items) (hi : PyProof.Rows.StrsAre items.toList xs) (nd : xs.Nodup) (hb : xs.length + 1 < scanBound)
    (h : ∀ (h' : Heap) (tk : Nat), h'.SetOf (PySem.strKind prog w) s.heap.objs.size (fun k' => (xs.take items.size).any (· == k')) items.size →
      (∀ b o, b < s.heap.objs.size → s.heap.get? b = some o → h'.get? b = some o) → Q (.ref s.heap.objs.size) { s with heap := h', toks := tk }) :
    wpAny (model prog w) A (call (.type "set") [.ref l]) Q E s := by
  have hsz : xs.length = items.size := by rw [← StrsAre.len_eq hi, Array.length_toList]
  obtain ⟨c, tl, hmro⟩ := PySem.F.called_set.mro
  have hmade := PySem.F.called_set.made
  have hsub := PySem.F.called_set.sub
  refine wpAny_call (codeAny_of_tree ?_)
  show wpAny _ _ (callAny (.type "set") _) _ _ _
  refine wpAny_pure ⟨Code.quiet_builtin _ (by decide +kernel), codeAny_builtin PySem.F.entry_type_call ?_⟩
  rw [Around.under_plain (weight_type_call_type "set" [.ref l] []) rfl]
  have h1 := PySem.F.called_set.notType
  have h2 := PySem.F.called_set.canCreate
  have hct := PySem.F.typeCall_set_1 (.ref l)
  repeat (any_goals (first | assumption | wp_step))
  refine codeAny_mono (code_set_new_1 (.ref l) (E := E) (Q₁ := fun obj s₁ => ∃ led : Bool, obj = .ref s.heap.objs.size ∧ s₁ = { s with heap := s.heap.push (set0 led) }) fun led => ⟨led, rfl, rfl⟩) fun r s₁ hr => ?_
  cases r with
  | error e => exact hr
  | ok fl =>
    cases fl with
    | ret obj =>
      obtain ⟨led, rfl, rfl⟩ := hr
      have hS : (s.heap.push (set0 led)).get? s.heap.objs.size = some (set0 led) := Heap.get?_push_size _ rfl
      have hT : Shared.TypeIs { s with heap := s.heap.push (set0 led) } (.ref s.heap.objs.size) "set" := ⟨_, hS, rfl⟩
      have hli := PySem.F.called_set.init.lookup
      have hbi := PySem.F.called_set.init.bind (.ref s.heap.objs.size)
      repeat (any_goals (first | assumption | wp_step))
      refine codeAny_mono (codeAny_call_builtin (R := wants (fun r s₂ => r = .none ∧ ∃ h' tk, s₂ = { s with heap := h', toks := tk } ∧
          h'.SetOf (PySem.strKind prog w) s.heap.objs.size (fun k' => (xs.take items.size).any (· == k')) items.size ∧
          (∀ b o, b < s.heap.objs.size → s.heap.get? b = some o → h'.get? b = some o)) E) PySem.F.called_set.init.plain PySem.F.entry_set_init (check_set_init_1 hT ?_)) fun r₂ s₂ hr₂ => ?_
      · obtain ⟨⟨ocls, odict, odata, oslots⟩, hol, hcl, nl, hdl⟩ := hl
        simp only at hcl hdl
        subst hcl; subst hdl
        have hol' : (s.heap.push (set0 led)).get? l = some { cls := .type "list", dict := odict, data := .seq items nl, slots := oslots } := Heap.get?_push_of_some _ hol
        have hl1 : (s.heap.push (set0 led)).IsList l items := ⟨_, hol', rfl, nl, rfl⟩
        have hlS : l < s.heap.objs.size := Heap.lt_size hol
        have sz : (s.heap.push (set0 led)).objs.size = s.heap.objs.size + 1 := Heap.size_push _ _
        have hsls := PySem.F.sub_list_set
        have hslf := PySem.F.sub_list_frozenset
        have hne : (Value.type "list" == Value.type "dict") = false := by decide
        unfold Builtin.«set.__init__» noKeywords Builtin.Frozenset.updateFrom
        generalize hPI : pyIter = PI
        wp_walk
        subst hPI
        refine wpAny_pyIter_list hl1 (wpAny_bind (wpAny_runValue ?_))
        have hval : ∀ (i : Nat) (v : Value), items[i]? = some v → ∃ t, v = .str (xs.getD i Str.empty) t := fun i v hv => SS.strs_at hi i v (by rw [Array.getElem?_toList]; exact hv)
        refine fill_texts ((Walks.list (by simp [hh]) _ l (by rw [sz]; exact Nat.ne_of_lt (Nat.lt_succ_of_lt hlS)) items).toS) s.heap.objs.size (by
          rw [sz]
          simp only [List.mem_cons, List.not_mem_nil, or_false, not_or]
          exact ⟨Nat.ne_of_lt (Nat.lt_succ_self _), Nat.ne_of_gt hlS⟩) xs hsz nd (by omega) hval (items.size - 0) 0 _ (by omega) (Nat.zero_le _)
          ⟨⟨_, Heap.get?_push_size _ rfl, rfl, rfl⟩, (hl1.push _)⟩ ?_ ?_
        · exact PyProof.Rows.SetOf_congr ((PyProof.Rows.setObjOf_fresh (knd := PySem.strKind prog w) led).setOf (Heap.get?_push_of_some _ hS) (by unfold scanBound; omega)) (fun _ => rfl) rfl
        · rintro ⟨h', g', d', tk', os'⟩ hm hS'
          have eg : g' = s.gens := hm.gens
          have ed : d' = s.drawn := hm.drawn
          have eo : os' = s.os := hm.os
          subst eg; subst ed; subst eo
          show wpAny _ _ _ _ _ _
          refine wpAny_pure ?_
          show wpAny _ _ (ret Value.none) _ _ _
          refine wpAny_pure ⟨rfl, h', tk', rfl, hS', fun b o hb e => ?_⟩
          exact hm.heap b o (by
          rw [sz]
          simp only [List.mem_cons, List.not_mem_nil, or_false, not_or]
          exact ⟨Nat.ne_of_lt hb, Nat.ne_of_lt (Nat.lt_succ_of_lt hb)⟩) (Heap.get?_push_of_some _ (Heap.get?_push_of_some _ e))
      · cases r₂ with
        | error e => exact hr₂
        | ok fl₂ =>
          cases fl₂ with
          | ret r =>
            obtain ⟨rfl, h', tk, rfl, hS', hk'⟩ := hr₂
            repeat (any_goals (first | assumption | wp_step))
            exact h _ _ hS' hk'
          | _ => exact hr₂.elim
    | _ => exact hr.elim
end
end Lk
namespace Lk
open PySem PySem.Spec PyProof.Rows L2
/-- how many unlike texts; the list must hold none twice -/
def D.lenSet : D → Res D
  | .lst ds => (match D.strs ds with | some ys => if ys.Nodup ∧ ys.length ≤ 1000 then .ok (.int (ys.length : Nat)) else .bug | none => .bug)
  | _ => .bug
theorem lenSet_ok {ys : List Str} (h : ys.Nodup) (h2 : ys.length ≤ 1000) : D.lenSet (.lst (ys.map D.str)) = .ok (.int (ys.length : Nat)) := by
  show (match D.strs (ys.map D.str) with | some ys => if ys.Nodup ∧ ys.length ≤ 1000 then Res.ok (D.int (ys.length : Nat)) else Res.bug | none => Res.bug) = _
  rw [strs_map]
  exact if_pos ⟨h, h2⟩
section
variable {X : Cx} {ca : Nat → Addr} {W : WX} {ρ : Env} {a : Expr} {p p2 q pos : Pos} {m : Res D}
def tLenTx (K : PySem.W.Frag) (ta : TE) : TE := fun σ H Q => ta σ H fun x H1 => ∃ l, ∃ xs : List Str, x = .ref l ∧ SqL K H1 l (xs.map V.str) ∧ xs.Nodup ∧ xs.length ≤ 1000 ∧ Q (.int xs.length) H1
theorem pe_lenTx {ta : TE} (hc : X.calm = true) (hg : Gl X "len") (hm : X.mg "len" = none) (hg2 : Gl X "set") (hm2 : X.mg "set" = none) (ha : PE X a ta)
    (na : starEach [a] X.env = (false, eval a X.env) :: starEach [] X.env := by rfl) : PE X (.Call (.Name "len" p) [.Call (.Name "set" p2) [a] [] q] [] pos) (tLenTx X.K ta) := by
  refine ⟨fun pins s σ H Q I h => ?_⟩
  refine Call_ (ld_blt I hg hm boot_len ?_)
  refine PyProof.Rows.callWith_builtin1 (PyProof.Rows.args_cons ?_ rfl) rfl rfl
  refine Call_ (ld_blt I hg2 hm2 boot_set ?_)
  refine PyProof.Rows.callWith_type1 (PyProof.Rows.args_cons (thn (ha.run pins s σ H _ I h) fun v s1 ⟨x, H1, I1, r1, q1⟩ => PyProof.Rows.args_nil ?_) na) na rfl
  obtain ⟨l, xs, rfl, hq, nd, h1, q1⟩ := q1
  cases r1
  obtain ⟨its, r, pl, hz⟩ := I1.list hq
  refine call_set_texts (I1.ok.hd hc) pl.isList (by simpa using strsAre_of r) nd (by unfold scanBound; omega) fun h' tk hS hk => PyProof.Rows.args_nil ?_
  have hl : its.toArray.size = xs.length := by rw [List.size_toArray, ← r.length, List.length_map]
  rw [hl] at hS
  obtain ⟨o, es, ep, t, ho, hex, hd, _, _, _, hf, hn⟩ := hS
  have I2 : Inv X pins σ H1 { s1 with heap := h', toks := tk } := I1.kept fun b o e => hk b o (Heap.lt_size e) e
  exact call_len_set ho hex hd hf (by rw [hn]; omega) ⟨.int xs.length, H1, I2.tok _, ⟨_, by rw [hn]⟩, q1⟩
theorem e_lenSet (hc : X.calm = true) (hg : Gl X "len") (hm : X.mg "len" = none) (hg2 : Gl X "set") (hm2 : X.mg "set" = none) (ha : PE X a (tD X.K ca W ρ m))
    (na : starEach [a] X.env = (false, eval a X.env) :: starEach [] X.env := by rfl) : PE X (.Call (.Name "len" p) [.Call (.Name "set" p2) [a] [] q] [] pos) (tD X.K ca W ρ (m >>= D.lenSet)) :=
  PE.of (pe_lenTx hc hg hm hg2 hm2 ha na) fun σ H Q ⟨Hb, G, h⟩ => ⟨Hb, G, h.cut fun x G1 H1 _ g1 h1 v rv => by
    cases x with
    | lst ds =>
      cases e : D.strs ds with
      | none => exact (h1.nb (by simp [D.lenSet, e])).elim
      | some ys =>
        have e1 := Lk.strs_inv e
        subst e1
        by_cases z : ys.Nodup ∧ ys.length ≤ 1000
        · have ej := lenSet_ok z.1 z.2
          rw [ej] at h1
          cases rv with
          | lst q1 q2 =>
            have e2 := q2.strs_inv
            subst e2
            exact ⟨_, ys, rfl, Same.sqL h1.sub q1, z.1, z.2, h1.done _ (.int _)⟩
        · exact (h1.nb (by simp only [D.lenSet, e]; exact if_neg z)).elim
    | _ => exact (h1.nb rfl).elim⟩
end
section
variable {X : Cx} {ca : Nat → Addr} {W : WX} {ρ : Env} {iter elt : Expr} {ifs : List Expr} {scope : Scope} {own : List (Str × Nat)} {pos : Pos} {mi : Res (List D)} {i j l b : Nat} {n m o y : Str} {p q u t : Pos} {kk : Nat}
/-- y = [.. for a, b, c in ..], y a local name -/
theorem s_setLcT3 {mt : D → D → D → Res Bool} {me : D → D → D → Res D} {S B T : Type} {emb : S → Env} {embB : B → Env} {out : T → RtP} {ρx : EX} {rest : List Stmt} {py spos : Pos} {k : List D → Res (Out S B T)} (hc : X.calm = true) (hN : X.N.Nodup) (hy : X.N[b]? = some y) (hyl : X.env.scope.names.lookup y = some .local)
    (hsw : swapsWith (.ListComp elt [⟨.Tuple [.Name n p, .Name m q, .Name o u] kk t, iter, ifs, 0⟩] scope pos) (some (.Name y py)) spos.line X.env = pure true)
    (hi : PI X (.Tuple [.Name n p, .Name m q, .Name o u] kk t) iter (tIt X.K ca W ρ mi)) (hn : X.N[i]? = some n) (hm : X.N[j]? = some m) (ho : X.N[l]? = some o)
    (ok : BlkOk X.N X.env.scope scope own) {ρi : Env} (lei : Env.le ρi ρ) (hcl : clearE ρi (own.map (·.2)) = true) (hv : i ∈ own.map (·.2)) (hv2 : j ∈ own.map (·.2)) (hv3 : l ∈ own.map (·.2)) (le : Env.le ρx.e ρ)
    (hg : ∀ (s : Shared) (H : Hp) (C : Addr) (cl : List (Str × Addr)) (fp : List Addr), PG (X.blk s H scope (compEnvC scope cl C X.env) fp) (.Tuple [.Name n p, .Name m q, .Name o u] kk t) (gTup X.K 3 (gCons (gName i) (gCons (gName j) (gCons (gName l) gNil)))))
    (ht : ∀ (x y z : D) (s : Shared) (H : Hp) (C : Addr) (cl : List (Str × Addr)) (fp : List Addr), PTs (X.blk s H scope (compEnvC scope cl C X.env) fp) ifs (tB X.K ca W0 (((ρi.set i (some (.d x))).set j (some (.d y))).set l (some (.d z))) (mt x y z)))
    (he : ∀ (x y z : D) (s : Shared) (H : Hp) (C : Addr) (cl : List (Str × Addr)) (fp : List Addr), PE (X.blk s H scope (compEnvC scope cl C X.env) fp) elt (tD X.K ca W0 (((ρi.set i (some (.d x))).set j (some (.d y))).set l (some (.d z))) (me x y z)))
    (h : ∀ a, PSs X rest (tS X.K ca W ρx emb embB out (ρ.set b (some (.ol none a))) (k a)))
    (hs : ∀ x, foldedSetIterable iter X.env x = pure x := by intro _; rfl) :
    PSs X (.Assign [.Name y py] (.ListComp elt [⟨.Tuple [.Name n p, .Name m q, .Name o u] kk t, iter, ifs, 0⟩] scope pos) spos :: rest) (tS X.K ca W ρx emb embB out ρ ((mi >>= fun xs => lcSize xs >>= fun xs => compR (lcF3 mt me) xs) >>= k)) :=
  PSs.ofI (pss_cons (ps_setLc (tt := fun σ H Q => ∃ x y z, tB X.K ca W0 (((ρi.set i (some (.d x))).set j (some (.d y))).set l (some (.d z))) (mt x y z) σ H Q) (te := fun σ H Q => ∃ x y z, tD X.K ca W0 (((ρi.set i (some (.d x))).set j (some (.d y))).set l (some (.d z))) (me x y z) σ H Q) hc hN hy hyl hsw hi ok hg
    (fun s H C cl fp => ⟨fun pins s σ H Q I ⟨x, y, z, q⟩ => (ht x y z _ _ C cl fp).run pins s σ H Q I q⟩) (fun s H C cl fp => ⟨fun pins s σ H Q I ⟨x, y, z, q⟩ => (he x y z _ _ C cl fp).run pins s σ H Q I q⟩) hs) (PSs.any h)) fun D0 σ H hl ⟨G, f, E, hq⟩ =>
    lc_read (Q := fun v H1 => ∃ a, tS X.K ca W ρx emb embB out (ρ.set b (some (.ol none a))) (k a) D0 (σ.set b (some v)) H1) lei (turnT3 (List.getElem?_eq_some_iff.mp hn).1 (List.getElem?_eq_some_iff.mp hm).1 (List.getElem?_eq_some_iff.mp ho).1 hv hv2 hv3) hcl hl ⟨H, G, So.expr hq E le fun a G1 H1 ea g E1 h1 p vs hp gp hh rl => by
      have hiσ : b < σ.length := by rw [hl]; exact (List.getElem?_eq_some_iff.mp hy).1
      have new : ∀ j, ¬ f j p := fun j z => by
        obtain ⟨_, u, q⟩ := E.out j p z
        rw [hp] at q; cases q
      refine ⟨a, G1, _, E1.putL hiσ hh gp new rl, ?_⟩
      exact So.step (a := a) hq ea ⟨g.g, g.sub, fun x o z _ => g.h x o z, fun x o z => (g.new x o z).elim .inl fun q => .inr (.inl q), fun x z => (all_put z).elim (fun q => .inr (by rw [q]; exact hp)) .inl⟩⟩
end
end Lk
namespace Lk
open PySem PySem.Spec PyProof.Rows L2
def spO (K : PySem.W.Frag) (ca : Nat → Addr) (F : List D → Res O) : Sp := fun vs H Q E => ∃ G ds, Same G H ∧ RL K ca G vs ds ∧ F ds ≠ .bug ∧
  (∀ o, F ds = .ok o → ∀ G' H', Grow G H G' H' → ∀ v g, Ow K ca G' H' v o g → (∀ a, g a → H a = none ∧ G' a = none ∧ ∃ u, H' a = some u) → Q v H') ∧ (∀ c, F ds = .exc c → ∀ G' H', Grow G H G' H' → E (.ref (ca c)) none H')
def finO {S B : Type} (m : Res (Out S B O)) : Res O := m >>= fun
  | .rt r => .ok r
  | .ra c _ => .exc c
  | _ => .bug
@[simp] theorem finO_rt {S B : Type} (r : O) : finO (S := S) (B := B) (.ok (.rt r)) = .ok r := rfl
@[simp] theorem finO_exc {S B : Type} (c : Nat) : finO (S := S) (B := B) (.exc c) = .exc c := rfl
theorem finO_bind {S' B γ : Type} {m : Res γ} {f : γ → Res (Out S' B O)} : finO (m >>= f) = (m >>= fun a => finO (f a)) := by cases m <;> rfl
section
variable {ca : Nat → Addr} {W : WX} {ρ : Env}
theorem spO_of {K : PySem.W.Frag} {Hb G H : Hp} {σ : L2.St} {F : List D → Res O} {ds : List D} {vs : List V} {Q : VK} (h : Cr K ca W ρ σ Hb G H (F ds) fun o G' H' => ∀ v g, Ow K ca G' H' v o g → (∀ a, g a → Hb a = none ∧ G' a = none ∧ ∃ u, H' a = some u) → Q v H') (r : RL K ca G vs ds) : spO K ca F vs H Q (WE W σ) :=
  ⟨G, ds, h.sub, r, h.nb, fun o e G' H' g v f ow fr => h.ok o e G' H' (Gb.of h.sb g) v f ow fun a z => ⟨h.sb.free (fr a z).1, (fr a z).2⟩, fun c e G' H' g => h.ex c e G' H' (Gb.of h.sb g)⟩
end
section
variable {P : Program} {w : World} {K : PySem.W.Frag} {mg : Str → Option Value} {base : Heap} {ca : Nat → Addr} {x qual : Str} {params : Arguments} {body : List Stmt} {scope : Scope} {dvs : List V} {kws : List (Str × V)} {f : Addr} {fd : FuncData} {N ps : List Str} {k : Nat}
theorem def_O {F : List D → Res O} (D0 : FunD K x qual params body scope dvs kws f fd) (Sc : FnScope N ps scope) (hlen : ∀ ds, F ds ≠ .bug → ds.length = ps.length)
    (hb : ∀ (cdv : Value) (A : Around) (outer : List PySem.Env) (s : Shared) (H : Hp) (E : XK) (ds : List D), Room k (A.deeper (envOfC qual scope s.heap.objs.size f cdv)) → F ds ≠ .bug →
      ∃ (S : Type) (emb : S → Lk.Env) (M : Res (Out S Empty O)), PSs (cxOf (L2.CX P w) P w K mg base N qual scope f cdv A outer s H E) body (tS K ca (WD E) ex0 emb (fun e : Empty => e.elim) (rtO K ca fun o => o) (rho0 N ds) M) ∧ finO M = F ds) :
    FnOk P w K mg base (L2.CX P w) (k + 1) f fd ps (spO K ca F) := by
  refine D0.ok Sc (fun vs H Q E ⟨G, ds, _, r, nb, _⟩ => by rw [r.length]; exact hlen ds nb) fun cdv A outer s H vs Q E hr ⟨G, ds, sg, r, nb, q1, q2⟩ => ?_
  obtain ⟨S, emb, M, hp, e⟩ := hb cdv A outer s H E ds hr nb
  refine ⟨_, hp, G, fun _ => none_, start_ok sg r, ?_⟩
  have gr : ∀ {G' H' : Hp} {F2 : AS}, Evo G H (All fun _ => none_) G' H' F2 → Grow G H G' H' := fun {G' H' F2} v => ⟨v.g, v.sub, fun a o z => v.h a o z (fun ⟨_, z⟩ => z), fun a o z => (v.new a o z).elim .inl fun q => q.elim .inr fun ⟨_, z⟩ => z.elim⟩
  refine ⟨fun z => nb (by rw [← e, z]; rfl), fun s2 z => (nb (by rw [← e, z]; rfl)).elim, fun b => b.elim, fun b => b.elim, fun o z v G' H' g ev ⟨ow, fr⟩ => ?_, fun c z σ' G' H' f' v E' => q2 c (by rw [← e, z]; rfl) G' H' (gr v), fun c os z σ' G' H' f' v E' => q2 c (by rw [← e, z]; rfl) G' H' (gr v)⟩
  exact q1 o (by rw [← e, z]; rfl) G' H' (gr ev) v g ow fun a ga => ⟨(ev.own a ga).elim (fun ⟨_, z⟩ => z.elim) id, fr a ga⟩
end
/-! ### calls -/
section
variable {X : Cx} {ca : Nat → Addr} {W : WX} {ρ : Env} {n m : Str} {k : Nat} {dvs : List V} {dds : List D} {o e : Expr} {es : List Expr} {pos apos p : Pos} {mo : Res D} {mas : Res (List D)}
theorem e_callO {F : List D → Res O} (c : Cal X.prog X.w X.K X.mg X.base n k (spO X.K ca F) []) (hr : Room k X.A) (hg : Gl X n) (tk : TkE X W) (ha : PA X (e :: es) (tArg X.K ca W ρ mas)) (hdb : (n == ("__debug__" : Str)) = false := by decide)
    (he : starEach (e :: es) X.env = (false, eval e X.env) :: starEach es X.env := by rfl) (hpl : (backTo pos (starEach es X.env)).any (·.1) = false := by rfl) : PE X (.Call (.Name n p) (e :: es) [] pos) (tO X.K ca W ρ (mas >>= fun ds => F ds)) :=
  PE.of (pe_callSD (E := WE W) c hr hg tk ha hdb he hpl) fun σ H Q ⟨Hb, G, h⟩ => ⟨Hb, G, h.cut fun ds G1 H1 _ g1 h1 vs rvs => by
    show spO X.K ca F (vs ++ []) H1 Q (WE W σ)
    rw [List.append_nil]
    exact spO_of h1 rvs⟩
theorem e_methO {tb : Nat → Option (List D → Res O)} (c : ∀ c F, tb c = some F → MCal X.prog X.w X.K X.mg X.base (ca c) m k (spO X.K ca F) dvs) (rd : ∀ G, RL X.K ca G dvs dds) (hr : Room k X.A) (tk : TkE X W) (ho : PE X o (tD X.K ca W ρ mo)) (ha : PA X (e :: es) (tArg X.K ca W ρ mas)) {pl : Sem Bool}
    (hst : starEach (e :: es) X.env = (false, eval e X.env) :: starEach es X.env := by rfl) (hpl : (backTo pos (starEach es X.env)).any (·.1) = false := by rfl)
    (ht : eval (.Call (.Attribute o m apos) (e :: es) [] pos) X.env = (do
      let ov ← eval o X.env
      standAt apos.atName
      let (f, first) ← holding [ov] (getMethod ov m pl)
      callWith pos f first (backTo pos (starEach (e :: es) X.env)) (backToKw pos (keywordEach [] X.env))) := by rfl) :
    PE X (.Call (.Attribute o m apos) (e :: es) [] pos) (tO X.K ca W ρ (mo >>= fun x => D.mth m tb x >>= fun F => mas >>= fun ds => F (ds ++ dds))) :=
  PE.of (pe_methA (E := WE W) (pl := pl) ho hr tk ha hst hpl ht) fun σ H Q ⟨Hb, G, h⟩ => ⟨Hb, G, h.cut fun x G1 H1 _ g1 h1 v rv => by
    obtain ⟨cc, fs, F, rfl, e1, e2, e3⟩ := mth_inv (bind_ne h1.nb)
    rw [e3] at h1
    change Cr _ _ _ _ _ _ _ _ (mas >>= fun ds => F (.ins cc fs :: (ds ++ dds))) _ at h1
    have rv0 := rv
    cases rv with
    | ins q1 q2 => exact ⟨_, _, _, _, _, dvs, rfl, h1.sub _ _ q1, RF.lookN q2 e1, c cc F e2, Hb, G1, h1.cut fun ds G2 H2 _ g2 h2 vs rvs => spO_of h2 (.cons (rv0.mono g2.g) (rvs.append (rd G2)))⟩⟩
end
/-! ### what stands apart of what was lent -/
mutual
def O.plo : O → Bool
  | .d x => D.pln x
  | .ol none xs => D.plnL xs
  | .ot xs => O.ploL xs
  | _ => false
def O.ploL : List O → Bool
  | [] => true
  | x :: r => O.plo x && O.ploL r
end
def O.plO (o : O) : Res O := if O.plo o = true then .ok o else .bug
theorem plO_ok {o : O} (h : O.plo o = true) : O.plO o = .ok o := if_pos h
mutual
theorem Ow.hideS {K : PySem.W.Frag} {ca : Nat → Addr} {G H : Hp} {F : AS} (hF : NoTup F G) : ∀ {o : O} {v : V} {g : AS}, O.plo o = true → Ow K ca G H v o g → Ow K ca (hideS F G) H v o g
  | .d x, _, _, l, h => by cases h with | d h1 => exact .d (R.hideS hF l h1)
  | .ol none xs, _, _, l, h => by cases h with | ol h1 h2 h3 h4 => exact .ol h1 (RL.hideS hF l h2) h3 h4
  | .ol (some _) xs, _, _, l, h => by cases l
  | .ot xs, _, _, l, h => by cases h with | ot h1 h2 h3 h4 h5 => exact .ot h1 h2 (OwL.hideS hF l h3) h4 h5
  | .oL _, _, _, l, _ => by cases l
  | .oi _ _, _, _, l, _ => by cases l
  | .od _, _, _, l, _ => by cases l
  | .pin _ _, _, _, l, _ => by cases l
  | .raw _, _, _, l, _ => by cases l
theorem OwL.hideS {K : PySem.W.Frag} {ca : Nat → Addr} {G H : Hp} {F : AS} (hF : NoTup F G) : ∀ {os : List O} {vs : List V} {g : AS}, O.ploL os = true → OwL K ca G H vs os g → OwL K ca (hideS F G) H vs os g
  | [], _, _, _, h => by cases h; exact .nil
  | o :: os, _, _, l, h => by
    have l' := Bool.and_eq_true_iff.mp (show (O.plo o && O.ploL os) = true from l)
    cases h with
    | cons h1 h2 h3 h4 h5 => exact .cons (Ow.hideS hF l'.1 h1) (OwL.hideS hF l'.2 h2) h3 h4 h5
end
section
variable {X : Cx} {ca : Nat → Addr} {W : WX} {ρ : Env} {i : Nat} {r : Option V} {o : O} {e : Expr}
theorem e_lendPO (π : List Stp) {m : O → Res O} (ho : ρ[i]? = some (some (reO r o))) (h : ∀ o', PE X e (tO X.K ca W (ρ.set i (some (reO r o'))) (m o'))) : PE X e (tO X.K ca W ρ (O.lend o π fun o' => m o' >>= O.plO)) := by
  refine ⟨fun pins s σ H Q I ⟨Hb, G, hq⟩ => ?_⟩
  obtain ⟨o1, e1, e2, e3⟩ := lend_inv hq.nb
  rw [e3] at hq
  refine (h (O.put (.d o1.frz) o π)).run pins s σ H Q I ?_
  obtain ⟨G2, h2⟩ := lendP ho e1 e2 (hq.cut (P := fun x G' H' => O.plo x = true ∧ ∀ v g, Ow X.K ca G' H' v x g → (∀ a, g a → Hb a = none ∧ G' a = none ∧ ∃ u, H' a = some u) → Q v H') fun d G1 H1 e g h1 => by
    by_cases hl : O.plo d = true
    · rw [plO_ok hl] at h1
      exact ⟨hl, h1.done⟩
    · exact (h1.nb (if_neg hl)).elim) (P2 := fun x G' H' => ∀ v g, Ow X.K ca G' H' v x g → (∀ a, g a → Hb a = none ∧ G' a = none ∧ ∃ u, H' a = some u) → Q v H') (fun F d G' H' _ hp hin q v g ow fr => by
      refine q.2 v g (ow.hideS hp q.1) fun a ga => ⟨(fr a ga).1, ?_, (fr a ga).2.2⟩
      by_cases z : F a
      · exact hideS_in z
      · rw [hideS_out z]; exact (fr a ga).2.1)
  exact ⟨Hb, G2, h2⟩
end
/-! ### return (x, e), return (e, [..]) -/
section
variable {X : Cx} {ca : Nat → Addr} {W : WX} {ρ : Env} {ρx : EX} {S B : Type} {emb : S → Env} {embB : B → Env} {i : Nat} {n : Str} {e e1 e2 : Expr} {pos p0 tp : Pos} {kk : Nat} {ma : Res D} {ml : Res (List D)}
theorem s_retVD {r : Option V} {xs : List D} (hN : X.N[i]? = some n) (hv : Vis X.env.scope n) (hd : (n == ("__debug__" : Str)) = false) (hcd : (n == ("__classdict__" : Str)) = false) (ho : ρ[i]? = some (some (.ol r xs))) (he : PE X e (tD X.K ca W ρ ma)) (le : Env.le ρx.e ρ)
    (hs : starEach [.Name n p0, e] X.env = (false, eval (.Name n p0) X.env) :: starEach [e] X.env := by rfl) (hs2 : starEach [e] X.env = (false, eval e X.env) :: starEach [] X.env := by rfl) :
    PS X (.Return (some (.Tuple [.Name n p0, e] kk tp)) pos) (tS X.K ca W ρx emb embB (rtO X.K ca fun o => o) ρ (ma >>= fun a => .ok (.rt (.ot [.ol none xs, .d a])))) :=
  PS.of (ps_ret (pe_tup (pa_cons (pe_var hN hv hd hcd) (pa_cons he pa_nil hs2) hs))) fun D σ H ⟨G, f, E, hq⟩ => by
    obtain ⟨p, vs, hσ, hp, rl, fp, pn⟩ := E.own ho
    refine ⟨.ref p, hσ, H, G, hq.expr E le fun a G1 H1 ea g E1 h1 v rv => ⟨by show (2 : Nat) ≤ sizeLine; decide, fun t ht => ?_⟩⟩
    obtain ⟨gp, _⟩ := E1.out i p fp
    have hp1 : H1 p = some (.lst vs) := g.h p _ hp
    have tp' : t ≠ p := fun z => by rw [z, hp1] at ht; cases ht
    have Ht : H t = none := by
      cases q : H t with
      | none => rfl
      | some u => rw [g.h t u q] at ht; cases ht
    have G1t : G1 t = none := by
      cases q : G1 t with
      | none => rfl
      | some u => rw [g.sub t u q] at ht; cases ht
    have sub : Same G1 (upd H1 t (.tup [.ref p, v])) := fun a u z => by rw [upd_ne (fun q => by rw [q, G1t] at z; cases z)]; exact g.sub a u z
    refine So.rt hq (.ot [.ol none xs, .d a]) (by rw [ea]; rfl) (.ref t) G1 (upd H1 t (.tup [.ref p, v])) (fun x => x = t ∨ x = p) ⟨g.g, sub, fun x u z _ => by rw [upd_ne (fun q => by rw [q, Ht] at z; cases z)]; exact g.h x u z, fun x u z => (g.new x u z).elim .inl fun q => .inr (.inl q), fun x z => ?_⟩ ⟨?_, fun x z => ?_⟩
    · rcases z with z | z
      · exact .inr (by rw [z]; exact Ht)
      · exact .inl ⟨i, by rw [z]; exact fp⟩
    · refine .ot (F' := fun x => x = p) upd_same (.inl rfl) ?_ tp' fun x z => .inr z
      refine .cons (F1 := fun x => x = p) (F2 := none_) (.ol ?_ (rl.mono g.g) rfl fun _ z => by cases z) (.cons (F1 := none_) (F2 := none_) (.d rv) .nil (fun _ z => z.elim) (fun _ z => z.elim) fun _ z => z.elim) (fun _ _ z => z.elim) (fun _ z => z) fun _ z => z.elim
      rw [upd_ne (Ne.symm tp')]
      exact hp1
    · rcases z with z | z
      · rw [z]; exact ⟨G1t, _, upd_same⟩
      · rw [z]; exact ⟨gp, _, by rw [upd_ne (Ne.symm tp')]; exact hp1⟩
theorem s_retDL (h1 : PE X e1 (tD X.K ca W ρ ma)) (h2 : PE X e2 (tL X.K ca W ρ ml)) (le : Env.le ρx.e ρ)
    (hs : starEach [e1, e2] X.env = (false, eval e1 X.env) :: starEach [e2] X.env := by rfl) (hs2 : starEach [e2] X.env = (false, eval e2 X.env) :: starEach [] X.env := by rfl) :
    PS X (.Return (some (.Tuple [e1, e2] kk tp)) pos) (tS X.K ca W ρx emb embB (rtO X.K ca fun o => o) ρ (ma >>= fun a => ml >>= fun ys => .ok (.rt (.ot [.d a, .ol none ys])))) :=
  PS.of (ps_ret (pe_tup (pa_cons h1 (pa_cons h2 pa_nil hs2) hs))) fun D σ H ⟨G, f, E, hq⟩ => by
    refine ⟨H, G, hq.expr E le fun a G1 H1 ea g E1 q1 v rv => ⟨H1, G1, q1.expr E1 le fun ys G2 H2 ey g2 E2 q2 p vs Hp gp hp rl => ⟨by show (2 : Nat) ≤ sizeLine; decide, fun t ht => ?_⟩⟩⟩
    have tp' : t ≠ p := fun z => by rw [z, hp] at ht; cases ht
    have H1t : H1 t = none := by
      cases q : H1 t with
      | none => rfl
      | some u => rw [g2.h t u q] at ht; cases ht
    have G2t : G2 t = none := by
      cases q : G2 t with
      | none => rfl
      | some u => rw [g2.sub t u q] at ht; cases ht
    have sub : Same G2 (upd H2 t (.tup [v, .ref p])) := fun a u z => by rw [upd_ne (fun q => by rw [q, G2t] at z; cases z)]; exact g2.sub a u z
    refine So.rt q1 (.ot [.d a, .ol none ys]) (by rw [ey]; rfl) (.ref t) G2 (upd H2 t (.tup [v, .ref p])) (fun x => x = t ∨ x = p) ⟨g2.g, sub, fun x u z _ => by rw [upd_ne (fun q => by rw [q, H1t] at z; cases z)]; exact g2.h x u z, fun x u z => (g2.new x u z).elim .inl fun q => .inr (.inl q), fun x z => ?_⟩ ⟨?_, fun x z => ?_⟩
    · rcases z with z | z
      · exact .inr (by rw [z]; exact H1t)
      · exact .inr (by rw [z]; exact Hp)
    · refine .ot (F' := fun x => x = p) upd_same (.inl rfl) ?_ tp' fun x z => .inr z
      refine .cons (F1 := none_) (F2 := fun x => x = p) (.d (rv.mono g2.g)) (.cons (F1 := fun x => x = p) (F2 := none_) (.ol ?_ rl rfl fun _ z => by cases z) .nil (fun _ _ z => z.elim) (fun _ z => z) fun _ z => z.elim) (fun _ z => z.elim) (fun _ z => z.elim) fun _ z => z
      rw [upd_ne (Ne.symm tp')]
      exact hp
    · rcases z with z | z
      · rw [z]; exact ⟨G2t, _, upd_same⟩
      · rw [z]; exact ⟨gp, _, by rw [upd_ne (Ne.symm tp')]; exact hp⟩
end
end Lk
namespace Lk
open PySem PySem.Spec PyProof.Rows L2
def compO (F : D → Res O) : List D → Res (List O)
  | [] => .ok []
  | x :: xs => Res.nox (F x) >>= fun o => compO F xs >>= fun ys => .ok (o :: ys)
@[simp] theorem compO_nil (F : D → Res O) : compO F [] = .ok [] := rfl
theorem compO_ok {F : D → Res O} : ∀ {xs : List D}, compO F xs ≠ .bug → ∃ ys, compO F xs = .ok ys
  | [], _ => ⟨[], rfl⟩
  | x :: xs, h => by
    cases e : Res.nox (F x) with
    | bug => exact (h (by simp only [compO, e]; rfl)).elim
    | exc c => cases q : F x <;> rw [q] at e <;> cases e
    | ok o =>
      obtain ⟨ys, q⟩ := compO_ok (F := F) (xs := xs) (fun z => h (by simp only [compO, e, z]; rfl))
      exact ⟨_, by simp only [compO, e, q]; rfl⟩
theorem compO_map {α : Type} {F : D → Res O} (c : α → D) (g : α → O) : ∀ {xs : List α}, (∀ x ∈ xs, F (c x) = .ok (g x)) → compO F (xs.map c) = .ok (xs.map g)
  | [], _ => rfl
  | x :: xs, h => by
    simp only [List.map_cons, compO, h x List.mem_cons_self, compO_map c g fun y hy => h y (List.mem_cons_of_mem _ hy)]
    rfl
section
variable {K : PySem.W.Frag} {ca : Nat → Addr} {G H : Hp}
theorem OwL.snoc {v : V} {o : O} {g : AS} (ow : Ow K ca G H v o g) : ∀ {os : List O} {vs : List V} {F : AS}, OwL K ca G H vs os F → (∀ a, F a → g a → False) → OwL K ca G H (vs ++ [v]) (os ++ [o]) (fun a => F a ∨ g a)
  | [], _, F, h, _ => by
    cases h
    exact .cons (F1 := g) (F2 := none_) ow .nil (fun _ _ z => z.elim) (fun _ z => .inr z) fun _ z => z.elim
  | x :: os, _, F, h, d => by
    cases h with
    | @cons _ _ _ _ _ F1 F2 h1 h2 h3 h4 h5 =>
      refine .cons (F1 := F1) (F2 := fun a => F2 a ∨ g a) h1 (OwL.snoc ow h2 fun a z1 z2 => d a (h5 a z1) z2) (fun a z1 z2 => z2.elim (h3 a z1) (d a (h4 a z1))) (fun a z => .inl (h4 a z)) fun a z => z.elim (fun z => .inl (h5 a z)) .inr
end
section
variable {X : Cx} {ca : Nat → Addr} {W : WX} {ρ : Env} {tg iter elt : Expr} {scope : Scope} {own : List (Str × Nat)} {pos : Pos} {mi : Res (List D)} {F : D → Res O}
def LcTurnO (X : Cx) (ca : Nat → Addr) (ρ : Env) (vs : List Nat) (g : TG) (te : TE) (F : D → Res O) : Prop :=
  ∀ (σ : L2.St) (x : D) (G H : Hp) (f : Nat → AS) (v : V) (Ky : V → Hp → Prop), σ.length = X.N.length → EnvOk X.K ca G H (wipe σ vs) ρ f → R X.K ca G v x → Res.nox (F x) ≠ .bug →
    (∀ o G' H', Res.nox (F x) = .ok o → Gb H G H G' H' → ∀ w g, Ow X.K ca G' H' w o g → (∀ a, g a → H a = none ∧ G' a = none ∧ ∃ u, H' a = some u) → Ky w H') →
    g v (wipe σ vs) H fun σ2 H2 => wipe σ2 vs = wipe σ vs ∧ te σ2 H2 fun y H4 => Ky y H4
theorem lc_readO {g : TG} {te : TE} {vs : List Nat} {ρi : Env} (lei : Env.le ρi ρ) (tn : LcTurnO X ca ρi vs g te F) (hg : ∀ (v : V) (σ : L2.St) (H : Hp) (P P' : L2.St → Hp → Prop), (∀ σ H, P σ H → P' σ H) → g v σ H P → g v σ H P') (hc : clearE ρi vs = true) {σ : L2.St} {H : Hp} {Q : VK} (hl : σ.length = X.N.length)
    (hq : tO X.K ca W ρ (mi >>= fun xs => lcSize xs >>= fun xs => compO F xs >>= fun os => .ok (.oL os)) σ H Q) : tLc (tIt X.K ca W ρ mi) g tYes te vs σ H Q := by
  obtain ⟨Hb, G, h⟩ := hq
  refine ⟨Hb, G, h.cut fun xs G1 H1 ex g1 h1 J wk Dd hD => ?_⟩
  have hz : xs.length ≤ 100000 := by
    by_cases hz : xs.length ≤ 100000
    · exact hz
    · exact (h1.nb (by unfold lcSize; rw [if_neg hz]; rfl)).elim
  rw [lcSize_ok hz] at h1
  obtain ⟨ys, ey⟩ := compO_ok (F := F) (xs := xs) (fun z => h1.nb (by rw [bind_ok, z]; rfl))
  obtain ⟨f, E, hf⟩ := h1.env
  have gD : G1 Dd = none := h1.sub.free hD
  refine ⟨fun i m H' => m = xs.length - i ∧ i ≤ xs.length ∧ ∃ (G' : Hp) (acc rest : List O) (us : List V) (FA : AS), Gb Hb G1 H1 G' H' ∧ compO F (xs.drop i) = .ok rest ∧ acc ++ rest = ys ∧ acc.length ≤ i ∧ H' Dd = some (.lst us) ∧ OwL X.K ca G' H' us acc FA ∧ G' Dd = none ∧ ¬ FA Dd ∧ ∀ a, FA a → Hb a = none ∧ G' a = none ∧ ∃ u, H' a = some u,
    ⟨xs.length, rfl, Nat.zero_le _, G1, [], ys, [], none_, Gb.own h1.sub hD, ey, rfl, Nat.le_refl _, upd_same, .nil, gD, fun z => z, fun a z => z.elim⟩, ?_⟩
  rintro i m H' ⟨rfl, hi, G', acc, rest, us, FA, gb, er, ea, la, hu, rl, gd, nD, fr⟩
  by_cases hlt : i < xs.length
  · refine .inr ⟨wk.go i H' (gb.g.trans gb.sub) hlt, fun H'' => i + 1 ≤ xs.length ∧ ∃ (G' : Hp) (acc rest : List O) (us : List V) (FA : AS), Gb Hb G1 H1 G' H'' ∧ compO F (xs.drop (i + 1)) = .ok rest ∧ acc ++ rest = ys ∧ acc.length ≤ i + 1 ∧ H'' Dd = some (.lst us) ∧ OwL X.K ca G' H'' us acc FA ∧ G' Dd = none ∧ ¬ FA Dd ∧ ∀ a, FA a → Hb a = none ∧ G' a = none ∧ ∃ u, H'' a = some u,
      fun H'' n => ⟨xs.length - (i + 1), by omega, rfl, n.1, n.2⟩, fun v H2 y => ?_⟩
    obtain ⟨d, G2, e1, gb2, rv⟩ := wk.yld i H' G' H' v H2 gb.g (Same.refl _) gb.sub hlt y
    have sb' : Same Hb H' := h1.sb.trans gb.h
    have gb2' : Gb Hb G' H' G2 H2 := Gb.of sb' gb2.grow
    have E2 : EnvOk X.K ca G2 H2 σ ρi f := (E.gb hf (gb.trans gb2')).weak lei
    have ed : xs.drop i = d :: xs.drop (i + 1) := by
      rw [List.drop_eq_getElem_cons hlt]
      have := (List.getElem?_eq_some_iff.mp e1).2
      rw [this]
    rw [ed] at er
    have stay2 : ∀ a u, H' a = some u → G' a = none → G2 a = none := fun a u z zg => by
      cases q : G2 a with
      | none => rfl
      | some o =>
        rcases gb2.new a o q with t | t
        · rw [zg] at t; cases t
        · rw [z] at t; cases t
    have nb : Res.nox (F d) ≠ .bug := fun z => by
      simp only [compO, z] at er
      cases er
    refine hg _ _ _ _ _ (fun σ2 H3 z => ?_) (tn σ d G2 H2 f v (fun w H3 => ∃ acc' : List V, H3 Dd = some (.lst acc') ∧ acc'.length < sizeLine ∧ (i + 1 ≤ xs.length ∧ ∃ (G' : Hp) (acc rest : List O) (us : List V) (FA : AS), Gb Hb G1 H1 G' (upd H3 Dd (.lst (acc' ++ [w]))) ∧ compO F (xs.drop (i + 1)) = .ok rest ∧ acc ++ rest = ys ∧ acc.length ≤ i + 1 ∧ (upd H3 Dd (.lst (acc' ++ [w]))) Dd = some (.lst us) ∧ OwL X.K ca G' (upd H3 Dd (.lst (acc' ++ [w]))) us acc FA ∧ G' Dd = none ∧ ¬ FA Dd ∧ ∀ a, FA a → Hb a = none ∧ G' a = none ∧ ∃ u, (upd H3 Dd (.lst (acc' ++ [w]))) a = some u)) hl (E2.wiped hc) rv nb (fun o G3 H3 ef gb3 w gg ow' fr' => ?_))
    · exact z
    · simp only [compO, ef] at er
      cases q : compO F (xs.drop (i + 1)) with
      | bug => rw [q] at er; cases er
      | exc c => rw [q] at er; cases er
      | ok r2 =>
        rw [q] at er
        have er' : o :: r2 = rest := Res.ok.inj er
        subst er'
        have hu2 := gb2.h _ _ hu
        have hu3 : H3 Dd = some (.lst us) := gb3.h _ _ hu2
        have stay3 : ∀ a u, H2 a = some u → G2 a = none → G3 a = none := fun a u z zg => by
          cases q : G3 a with
          | none => rfl
          | some o =>
            rcases gb3.new a o q with t | t
            · rw [zg] at t; cases t
            · rw [z] at t; cases t
        have gd2 := stay2 _ _ hu gd
        have gd3 := stay3 _ _ hu2 gd2
        have gb4 : Gb Hb G1 H1 G3 H3 := (gb.trans gb2').trans (Gb.of (sb'.trans gb2.h) gb3.grow)
        have sbH2 : Same Hb H2 := sb'.trans gb2.h
        have gD' : ¬ gg Dd := fun z => by
          have := (fr' Dd z).1
          rw [hu2] at this
          cases this
        have old : ∀ a, FA a → ∃ u, H2 a = some u := fun a z => by
          obtain ⟨_, _, u, t⟩ := fr a z
          exact ⟨u, gb2.h _ _ t⟩
        have len : us.length = acc.length := rl.length
        refine ⟨us, hu3, Nat.lt_of_le_of_lt (by rw [len]; omega) (Nat.lt_of_lt_of_le (by omega : xs.length < 100001) (by decide)), hlt, G3, acc ++ [o], r2, us ++ [w], (fun a => FA a ∨ gg a), ?_, rfl, by rw [← ea, List.append_assoc]; rfl, by rw [List.length_append, List.length_singleton]; omega, upd_same, ?_, gd3, fun z => z.elim nD gD', fun a z => ?_⟩
        · refine ⟨gb4.g, fun a u z => ?_, fun a u z => ?_, gb4.new⟩
          · rw [upd_ne (ne_of_none z gd3)]; exact gb4.sub a u z
          · rw [upd_ne (ne_of_none z hD)]; exact gb4.h a u z
        · have o1 : OwL X.K ca G3 (upd H3 Dd (.lst (us ++ [w]))) us acc FA := rl.mono (gb2.g.trans gb3.g) fun a u fa z => by
            rw [upd_ne (fun q => nD (by rw [← q]; exact fa))]
            exact gb3.h _ _ (gb2.h _ _ z)
          have o2 : Ow X.K ca G3 (upd H3 Dd (.lst (us ++ [w]))) w o gg := ow'.mono (Same.refl _) fun a u ga z => by
            rw [upd_ne (fun q => gD' (by rw [← q]; exact ga))]
            exact z
          exact OwL.snoc o2 o1 fun a z1 z2 => by
            obtain ⟨u, t⟩ := old a z1
            rw [(fr' a z2).1] at t
            cases t
        · rcases z with z | z
          · obtain ⟨n1, n2, u, t⟩ := fr a z
            refine ⟨n1, stay3 _ _ (gb2.h _ _ t) (stay2 _ _ t n2), u, ?_⟩
            rw [upd_ne (fun q => nD (by rw [← q]; exact z))]
            exact gb3.h _ _ (gb2.h _ _ t)
          · obtain ⟨n1, n2, u, t⟩ := fr' a z
            refine ⟨sbH2.free n1, n2, u, ?_⟩
            rw [upd_ne (fun q => gD' (by rw [← q]; exact z))]
            exact t
  · have ei : i = xs.length := by omega
    refine .inl ⟨wk.stop i H' (gb.g.trans gb.sub) ei, ?_⟩
    have ed : xs.drop i = [] := by rw [ei]; exact List.drop_length
    rw [ed] at er
    have er' : [] = rest := Res.ok.inj er
    subst er'
    rw [List.append_nil] at ea
    subst ea
    exact h1.ok (.oL acc) (by rw [bind_ok, ey]; rfl) G' H' gb (.ref Dd) (fun a => a = Dd ∨ FA a) (.oL (F' := FA) hu (.inl rfl) rl nD fun a z => .inr z) fun a z => z.elim (fun z => by rw [z]; exact ⟨h1.sb.free hD, gd, _, hu⟩) (fr a)
variable {i j : Nat} {n y : Str} {p : Pos} {me : D → Res O}
theorem turnNO (hi : i < X.N.length) {vs : List Nat} (hv : i ∈ vs) : LcTurnO X ca ρ vs (gName i) (fun σ H Q => ∃ x, tO X.K ca W0 (ρ.set i (some (.d x))) (me x) σ H Q) me := by
  intro σ x G H f v Ky hl E r nb ky
  have hiσ : i < (wipe σ vs).length := by rw [wipe_length, hl]; exact hi
  have E1 := E.put hiσ r
  have hf : ∀ k a, (if k = i then none_ else f k) a → ∃ u, H a = some u := fun k a q => (E1.out k a q).2
  refine ⟨wipe_eq (by rw [List.length_set, wipe_length]) fun k hk => by rw [List.getElem?_set_ne (fun e => hk (by rw [← e]; exact hv))], x, H, G, ?_⟩
  exact ⟨Same.refl _, ⟨_, E1, hf⟩, fun e => nb (by rw [e]; rfl), fun o e G' H' gb w g ow fr => ky o G' H' (by rw [e]; rfl) gb w g ow fr, fun c e => (nb (by rw [e]; rfl)).elim⟩
theorem gName_mono {i : Nat} (v : V) (σ : L2.St) (H : Hp) (P P' : L2.St → Hp → Prop) (h : ∀ σ H, P σ H → P' σ H) (q : gName i v σ H P) : gName i v σ H P' := h _ _ q
theorem e_lcO (hc : X.calm = true) (hN : X.N.Nodup) (hi : PI X (.Name n p) iter (tIt X.K ca W ρ mi)) (hn : X.N[i]? = some n) (ok : BlkOk X.N X.env.scope scope own) {ρi : Env} (lei : Env.le ρi ρ) (hcl : clearE ρi (own.map (·.2)) = true) (hv : i ∈ own.map (·.2))
    (hg : ∀ (s : Shared) (H : Hp) (C : Addr) (cl : List (Str × Addr)) (fp : List Addr), PG (X.blk s H scope (compEnvC scope cl C X.env) fp) (.Name n p) (gName i))
    (he : ∀ (x : D) (s : Shared) (H : Hp) (C : Addr) (cl : List (Str × Addr)) (fp : List Addr), PE (X.blk s H scope (compEnvC scope cl C X.env) fp) elt (tO X.K ca W0 (ρi.set i (some (.d x))) (me x)))
    (hs : ∀ x, foldedSetIterable iter X.env x = pure x := by intro _; rfl) :
    PE X (.ListComp elt [⟨.Name n p, iter, [], 0⟩] scope pos) (tO X.K ca W ρ (mi >>= fun xs => lcSize xs >>= fun xs => compO me xs >>= fun os => .ok (.oL os))) := by
  refine ⟨fun pins s σ H Q I h => ?_⟩
  refine (pe_lc (tt := tYes) (te := fun σ H Q => ∃ x, tO X.K ca W0 (ρi.set i (some (.d x))) (me x) σ H Q) hc hN hi ok hg (fun s H C cl fp => pts_nil) (fun s H C cl fp => ⟨fun pins s σ H Q I ⟨x, q⟩ => (he x _ _ C cl fp).run pins s σ H Q I q⟩) hs).run pins s σ H Q I ?_
  exact lc_readO lei (turnNO (List.getElem?_eq_some_iff.mp hn).1 hv) gName_mono hcl I.len h
end
/-! ### list-free owned things -/
mutual
def O.lfo : O → Bool
  | .d x => D.lf x
  | .ol none xs => D.lfL xs
  | .oL xs => O.lfoL xs
  | .ot xs => O.lfoL xs
  | .oi _ fs => O.lfoF fs
  | _ => false
def O.lfoL : List O → Bool
  | [] => true
  | x :: r => O.lfo x && O.lfoL r
def O.lfoF : List (Str × O) → Bool
  | [] => true
  | (_, x) :: r => O.lfo x && O.lfoF r
end
def O.lfO (o : O) : Res O := if O.lfo o = true then .ok o else .bug
theorem lfO_ok {o : O} (h : O.lfo o = true) : O.lfO o = .ok o := if_pos h
section
variable {K : PySem.W.Frag} {ca : Nat → Addr} {G H : Hp} {p : Addr} {us : List V}
mutual
theorem Ow.hideL (hp : G p = some (.lst us)) : ∀ {o : O} {v : V} {g : AS}, O.lfo o = true → Ow K ca G H v o g → Ow K ca (Lk.hide p G) H v o g
  | .d x, _, _, l, h => by cases h with | d h1 => exact .d (R.hide hp l h1)
  | .ol none xs, _, _, l, h => by cases h with | ol h1 h2 h3 h4 => exact .ol h1 (RL.hide hp l h2) h3 h4
  | .ol (some _) xs, _, _, l, h => by cases l
  | .oL xs, _, _, l, h => by cases h with | oL h1 h2 h3 h4 h5 => exact .oL h1 h2 (OwL.hideL hp l h3) h4 h5
  | .ot xs, _, _, l, h => by cases h with | ot h1 h2 h3 h4 h5 => exact .ot h1 h2 (OwL.hideL hp l h3) h4 h5
  | .oi c fs, _, _, l, h => by cases h with | oi h1 h2 h3 h4 h5 => exact .oi h1 h2 (OwF.hideL hp l h3) h4 h5
  | .od _, _, _, l, _ => by cases l
  | .pin _ _, _, _, l, _ => by cases l
  | .raw _, _, _, l, _ => by cases l
theorem OwL.hideL (hp : G p = some (.lst us)) : ∀ {os : List O} {vs : List V} {g : AS}, O.lfoL os = true → OwL K ca G H vs os g → OwL K ca (Lk.hide p G) H vs os g
  | [], _, _, _, h => by cases h; exact .nil
  | o :: os, _, _, l, h => by
    have l' := Bool.and_eq_true_iff.mp (show (O.lfo o && O.lfoL os) = true from l)
    cases h with
    | cons h1 h2 h3 h4 h5 => exact .cons (Ow.hideL hp l'.1 h1) (OwL.hideL hp l'.2 h2) h3 h4 h5
theorem OwF.hideL (hp : G p = some (.lst us)) : ∀ {os : List (Str × O)} {vs : List (Str × V)} {g : AS}, O.lfoF os = true → OwF K ca G H vs os g → OwF K ca (Lk.hide p G) H vs os g
  | [], _, _, _, h => by cases h; exact .nil
  | (n, o) :: os, _, _, l, h => by
    have l' := Bool.and_eq_true_iff.mp (show (O.lfo o && O.lfoF os) = true from l)
    cases h with
    | cons h1 h2 h3 h4 h5 => exact .cons (Ow.hideL hp l'.1 h1) (OwF.hideL hp l'.2 h2) h3 h4 h5
end
end
section
variable {X : Cx} {ca : Nat → Addr} {W : WX} {ρ : Env} {i : Nat} {rr : Option V} {xs : List D} {e : Expr}
theorem hide_no {a p : Addr} {G : Hp} (h : G a = none) : Lk.hide p G a = none := by
  unfold Lk.hide
  split
  · rfl
  · exact h
/-- a list of one's own, lent to what makes an owned thing without it -/
theorem e_lendLO {m : Res O} (ho : ρ[i]? = some (some (.ol rr xs))) (h : PE X e (tO X.K ca W (ρ.set i (some (.d (.lst xs)))) m)) : PE X e (tO X.K ca W ρ (m >>= O.lfO)) :=
  PE.of h fun σ H Q ⟨Hb, G, hq⟩ => by
    obtain ⟨G2, h2⟩ := lendX ho (hq.cut (P := fun x G' H' => O.lfo x = true ∧ ∀ v g, Ow X.K ca G' H' v x g → (∀ a, g a → Hb a = none ∧ G' a = none ∧ ∃ u, H' a = some u) → Q v H') fun d G1 H1 e g h1 => by
      by_cases hl : O.lfo d = true
      · rw [lfO_ok hl] at h1
        exact ⟨hl, h1.done⟩
      · exact (h1.nb (if_neg hl)).elim) (P2 := fun x G' H' => ∀ v g, Ow X.K ca G' H' v x g → (∀ a, g a → Hb a = none ∧ G' a = none ∧ ∃ u, H' a = some u) → Q v H')
      (fun p us d G' H' _ hp ry q v g ow fr => q.2 v g (ow.hideL hp q.1) fun a ga => ⟨(fr a ga).1, hide_no (fr a ga).2.1, (fr a ga).2.2⟩)
    exact ⟨Hb, G2, h2⟩
end
/-! ### y = [..] of owned things -/
section
variable {X : Cx} {ca : Nat → Addr} {W : WX} {ρ : Env} {iter elt : Expr} {scope : Scope} {own : List (Str × Nat)} {pos : Pos} {mi : Res (List D)} {i j : Nat} {n y : Str} {p : Pos} {me : D → Res O}
theorem s_setLcO {S B T : Type} {emb : S → Env} {embB : B → Env} {out : T → RtP} {ρx : EX} {rest : List Stmt} {py spos : Pos} {k : O → Res (Out S B T)} (hc : X.calm = true) (hN : X.N.Nodup) (hy : X.N[j]? = some y) (hyl : X.env.scope.names.lookup y = some .local)
    (hsw : swapsWith (.ListComp elt [⟨.Name n p, iter, [], 0⟩] scope pos) (some (.Name y py)) spos.line X.env = pure true)
    {ρ' : Env} {li : Nat} {lr : Option V} {lx : List D} (hl0 : ρ[li]? = some (some (.ol lr lx))) (eρ : ρ' = ρ.set li (some (.d (.lst lx))))
    (hi : PI X (.Name n p) iter (tIt X.K ca W ρ' mi)) (hn : X.N[i]? = some n) (ok : BlkOk X.N X.env.scope scope own) {ρi : Env} (lei : Env.le ρi ρ') (hcl : clearE ρi (own.map (·.2)) = true) (hv : i ∈ own.map (·.2)) (le : Env.le ρx.e ρ)
    (hg : ∀ (s : Shared) (H : Hp) (C : Addr) (cl : List (Str × Addr)) (fp : List Addr), PG (X.blk s H scope (compEnvC scope cl C X.env) fp) (.Name n p) (gName i))
    (he : ∀ (x : D) (s : Shared) (H : Hp) (C : Addr) (cl : List (Str × Addr)) (fp : List Addr), PE (X.blk s H scope (compEnvC scope cl C X.env) fp) elt (tO X.K ca W0 (ρi.set i (some (.d x))) (me x)))
    (h : ∀ a, PSs X rest (tS X.K ca W ρx emb embB out (ρ.set j (some a)) (k a)))
    (hs : ∀ x, foldedSetIterable iter X.env x = pure x := by intro _; rfl) :
    PSs X (.Assign [.Name y py] (.ListComp elt [⟨.Name n p, iter, [], 0⟩] scope pos) spos :: rest) (tS X.K ca W ρx emb embB out ρ (((mi >>= fun xs => lcSize xs >>= fun xs => compO me xs >>= fun os => .ok (.oL os)) >>= O.lfO) >>= k)) :=
  PSs.ofI (pss_cons (ps_setLc (tt := tYes) (te := fun σ H Q => ∃ x, tO X.K ca W0 (ρi.set i (some (.d x))) (me x) σ H Q) hc hN hy hyl hsw hi ok hg (fun s H C cl fp => pts_nil) (fun s H C cl fp => ⟨fun pins s σ H Q I ⟨x, q⟩ => (he x _ _ C cl fp).run pins s σ H Q I q⟩) hs) (PSs.any h)) fun D0 σ H hl ⟨G, f, E, hq⟩ => by
    have c0 := So.expr (P := fun a G1 H1 => ∀ v g, Ow X.K ca G1 H1 v a g → (∀ x, g x → H x = none ∧ G1 x = none ∧ ∃ u, H1 x = some u) → ∃ a, tS X.K ca W ρx emb embB out (ρ.set j (some a)) (k a) D0 (σ.set j (some v)) H1) hq E le fun a G1 H1 ea g E1 h1 v gg ow fr => by
      have hiσ : j < σ.length := by rw [hl]; exact (List.getElem?_eq_some_iff.mp hy).1
      refine ⟨a, G1, _, E1.store hiσ ow fun x z => ⟨fun j _ q => ?_, (fr x z).2⟩, So.step (a := a) hq ea ⟨g.g, g.sub, fun x o z _ => g.h x o z, fun x o z => (g.new x o z).elim .inl fun q => .inr (.inl q), fun x z => (all_put z).elim (fun q => .inr (fr x q).1) .inl⟩⟩
      obtain ⟨_, u, t⟩ := E.out j x q
      rw [(fr x z).1] at t
      cases t
    obtain ⟨G2, c2⟩ := lendX hl0 (c0.cut (P := fun x G' H' => O.lfo x = true ∧ ∀ v g, Ow X.K ca G' H' v x g → (∀ a, g a → H a = none ∧ G' a = none ∧ ∃ u, H' a = some u) → ∃ a, tS X.K ca W ρx emb embB out (ρ.set j (some a)) (k a) D0 (σ.set j (some v)) H') fun d G1 H1 e g h1 => by
      by_cases hl : O.lfo d = true
      · rw [lfO_ok hl] at h1
        exact ⟨hl, h1.done⟩
      · exact (h1.nb (if_neg hl)).elim) (P2 := fun x G' H' => ∀ v g, Ow X.K ca G' H' v x g → (∀ a, g a → H a = none ∧ G' a = none ∧ ∃ u, H' a = some u) → ∃ a, tS X.K ca W ρx emb embB out (ρ.set j (some a)) (k a) D0 (σ.set j (some v)) H')
      (fun p us d G' H' _ hp ry q v g ow fr => q.2 v g (ow.hideL hp q.1) fun a ga => ⟨(fr a ga).1, hide_no (fr a ga).2.1, (fr a ga).2.2⟩)
    rw [← eρ] at c2
    exact lc_readO (Q := fun v H1 => ∃ a, tS X.K ca W ρx emb embB out (ρ.set j (some a)) (k a) D0 (σ.set j (some v)) H1) lei (turnNO (List.getElem?_eq_some_iff.mp hn).1 hv) gName_mono hcl hl ⟨H, G2, c2⟩
end/-! ### f(path, e, ..), f lent the part -/
section
variable {X : Cx} {ca : Nat → Addr} {W : WX} {ρ : Env} {ρx : EX} {i k : Nat} {r : Option V} {o : O} {e re : Expr} {es : List Expr} {n : Str} {p pos : Pos} {mπ : Res (List Stp)} {mas : Res (List D)} {α : Type} {out : α → O} {snap : O → List O} {n0 : Nat}
theorem x_callP {F : List O → List D → Res (XR α × List O)} (c : Cal X.prog X.w X.K X.mg X.base n k (spM X.K ca (true :: List.replicate n0 false) out F) []) (hr : Room k X.A) (hg : Gl X n) (tk : TkE X W) (hp : PE X re (tP X.K ca W ρ i mπ)) (ho : ρ[i]? = some (some (reO r o))) (le : Env.le ρx.e ρ) (le2 : ∀ o', Env.le (ρx.emb (snap o')) (ρ.set i (some (reO r o'))))
    (ha : PA X es (tArg X.K ca W ρ mas)) (hdb : (n == ("__debug__" : Str)) = false := by decide)
    (he : starEach (re :: es) X.env = (false, eval re X.env) :: starEach es X.env := by rfl) (hpl : (backTo pos (starEach es X.env)).any (·.1) = false := by rfl) :
    PE X (.Call (.Name n p) (re :: es) [] pos) (tX X.K ca W ρx (fun o' => ρ.set i (some (reO r o'))) out ρ (mπ >>= fun π => O.hasM (fun _ => some F) "" o π >>= fun _ => mas >>= fun ds => if ds.length = n0 then O.call (fun _ => some F) "" snap o π ds else .bug)) :=
  PE.of (pe_callSD (E := WE W) c hr hg tk (pa_cons hp ha he) hdb he hpl) fun σ H Q ⟨G, f, E, q⟩ => ⟨H, G, Cr.ofX q E le fun π G1 H1 eπ g1 E1 q1 v v1 hv hw => by
    obtain ⟨cc, fs, F', e1, e2, e3⟩ := hasM_inv (bind_ne q1.nb)
    rw [hasM_ok e1 e2 e3] at q1
    replace q1 : Xv X.K ca W ρx (fun o' => ρ.set i (some (reO r o'))) out σ G1 H1 (All f) (mas >>= fun ds => if ds.length = n0 then O.call (fun _ => some F) "" snap o π ds else .bug) Q := q1
    refine ⟨H1, G1, Cr.ofX q1 E1 le fun ds G2 H2 _ g2 E2 q4 vs rvs => ?_⟩
    by_cases hl : ds.length = n0
    · rw [if_pos hl] at q4
      show spM X.K ca (true :: List.replicate n0 false) out F ((v1 :: vs) ++ []) H2 Q (WE W σ)
      rw [List.append_nil]
      exact spP_of (tb := fun _ => some F) (m := "") E2 ho e1 e2 rfl hv (valAt_mono g2.h hw) rvs (by rw [rvs.length]; exact hl) le2 q4
    · rw [if_neg hl] at q4
      exact (q4.nb rfl).elim⟩
end
end Lk
namespace Lk
open PySem PySem.Spec PyProof.Rows L2
/-- what the objects at fr name, that is not among seen -/
def newY (g : Addr → Option Obj) (seen fr : List Addr) : List Addr := ((fr.flatMap fun a => match g a with
  | some o => He.refsD o
  | none => []).filter fun a => !seen.elem a).eraseDups
def asY (g : Addr → Option Obj) : Nat → List Addr → List Addr → List Addr
  | 0, seen, fr => seen
  | n + 1, seen, fr => match newY g seen fr with
    | [] => seen
    | a :: r => asY g n (seen ++ a :: r) (a :: r)
def obsYG (n : Nat) (fa : List He.Fa) (fn : List He.DefD) (ex : PySem.W.Frag → Bool) (g : Addr → Option Obj) : He.AlD := obsX fa fn ex (He.frG g (asY g n [mainGlobals] [mainGlobals] ++ [cStatics]))
def hookY (n : Nat) (fa : List He.Fa) (fn : List He.DefD) (ex : PySem.W.Frag → Bool) : PySem.W.Hook where
  α := He.AlD
  obs := fun s => obsYG n fa fn ex s.heap.get?
  val := fun _ => He.valD fn
  says := fun _ h => ∃ K : PySem.W.Frag, K.In h ∧ SaysX fa fn ex K
  of := fun _ _ e => ⟨_, He.frG_in, e⟩
  keeps := fun _ _ _ ⟨K, hK, c⟩ k => ⟨K, PySem.W.Frag.In.keeps hK k, c⟩
theorem obsYG_eq {n : Nat} {fa : List He.Fa} {fn : List He.DefD} {ex : PySem.W.Frag → Bool} {g : Addr → Option Obj} {s : Shared} (h : ∀ a, g a = s.heap.get? a) : obsYG n fa fn ex g = (hookY n fa fn ex).obs s := by
  have e : g = s.heap.get? := funext h
  rw [e]
  rfl
noncomputable section
open PySem.W PySem.Calls HandSHeadRun
def EqAt {β : Type} (r : OpenRow) (M : Nat) (w : World) (f : SharedT → β) (v : β) : Prop := ∀ os : OsState, (endF (stepQ (denQ tabQ) r.prog w) M r.prog w os).map f = some v
def EqSeen (r : OpenRow) (q : Program) (M : Nat) (loose : List PySem.Str) (w : World) : Prop :=
  EqAt r M w (fun s => (looksF r.prog (boot_heap w.params) s.abs, seenQ q loose (importedModules r.prog.main.body) (fun s => xlAt q [] s && recOk r.toRowW.records s) s.abs)) (true, openGood q loose)
def KofY (n : Nat) (s : SharedT) : Frag := He.frG (getT s) (asY (getT s) n [mainGlobals] [mainGlobals] ++ [cStatics])
/-- the head's run, looked at part by part -/
theorem run_of {r : OpenRow} {q : Program} {M n h : Nat} {loose : List PySem.Str} {w : World} {fa : List He.Fa} {fn : List He.DefD} {ex : Frag → Bool} (a : EqSeen r q M loose w)
    (b : EqAt r M w (fun s => fa.all fun f => f.ok (KofY n s)) true) (c1 : EqAt r M w (fun s => (fn.take h).all fun d => d.ok (KofY n s)) true) (c2 : EqAt r M w (fun s => (fn.drop h).all fun d => d.ok (KofY n s)) true)
    (d : EqAt r M w (fun s => ex (KofY n s)) true) (e1 : EqAt r M w (fun s => (fn.take h).map fun d => He.fnW (KofY n s) d.at_) ((fn.take h).map He.DefD.val)) (e2 : EqAt r M w (fun s => (fn.drop h).map fun d => He.fnW (KofY n s) d.at_) ((fn.drop h).map He.DefD.val)) :
    RunEq r q (hookY n fa fn ex) (fun s => obsYG n fa fn ex (getT s)) M loose w := by
  intro os
  have a := a os
  have b := b os
  have c1 := c1 os
  have c2 := c2 os
  have d := d os
  have e1 := e1 os
  have e2 := e2 os
  generalize endF (stepQ (denQ tabQ) r.prog w) M r.prog w os = o at a b c1 c2 d e1 e2 ⊢
  cases o with
  | none => cases a
  | some s =>
    have a := Option.some.inj a
    have b := Option.some.inj b
    have c1 := Option.some.inj c1
    have c2 := Option.some.inj c2
    have d := Option.some.inj d
    have e1 := Option.some.inj e1
    have e2 := Option.some.inj e2
    dsimp only at a b c1 c2 d e1 e2
    have hob : obsYG n fa fn ex (getT s) = obsX fa fn ex (KofY n s) := rfl
    obtain ⟨a1, a2⟩ := Prod.mk.inj a
    have c : (fn.all fun d => d.ok (KofY n s)) = true := by
      rw [← List.take_append_drop h fn, List.all_append, c1, c2]
      rfl
    have e : (fn.map fun d => He.fnW (KofY n s) d.at_) = fn.map He.DefD.val := by
      have : ∀ l : List He.DefD, l = fn.take h ++ fn.drop h → (l.map fun d => He.fnW (KofY n s) d.at_) = l.map He.DefD.val := fun l hl => by
        rw [hl, List.map_append, List.map_append, e1, e2]
      exact this fn (List.take_append_drop h fn).symm
    have f : obsYG n fa fn ex (getT s) = He.valD fn := by
      rw [hob]
      unfold obsX He.valD
      rw [b, c, d, e]
      rfl
    show some (_, _, _) = some (_, _, _)
    rw [a1, a2]
    exact congrArg (fun z => some (true, openGood q loose, z)) f
end
end Lk
namespace Lk
open PySem PySem.Spec PyProof.Rows L2
section
variable {X : Cx} {ca : Nat → Addr} {W : WX} {ρ : Env} {e : Expr}
/-- a list of one's own, as an owned thing -/
theorem e_tLO {m : Res (List D)} (h : PE X e (tL X.K ca W ρ m)) : PE X e (tO X.K ca W ρ (m >>= fun xs => .ok (.ol none xs))) :=
  PE.of h fun σ H Q ⟨Hb, G, h⟩ => ⟨Hb, G, h.cut fun xs G1 H1 _ g1 h1 p vs hb gp hh rl => by
    refine h1.done (.ref p) (fun x => x = p) (.ol hh rl rfl (fun _ e => by cases e)) fun x z => ?_
    rw [z]
    exact ⟨hb, gp, _, hh⟩⟩
end
section
variable {X : Cx} {ca : Nat → Addr} {W : WX} {ρ : Env} {ρx : EX} {S S' B T : Type} {emb' : S' → Env} {embB : B → Env} {outR : T → RtP} {e : Expr} {n f : Str} {i : Nat} {p0 pos pos' : Pos} {r : Option V} {o : O} {cs : List Nat} {rest : List Stmt}
/-- x.f = an owned thing -/
theorem s_setFldO {ma : Res O} {k : O → Res (Out S' B T)} (hN : X.N[i]? = some n) (hv : Vis X.env.scope n) (hd : (n == ("__debug__" : Str)) = false) (hcd : (n == ("__classdict__" : Str)) = false) (ho : ρ[i]? = some (some (reO r o)))
    (T : ∀ c, cs.contains c = true → Cls X.K (ca c) ∧ NoAttr X.K (ca c) f) (he : PE X e (tO X.K ca W ρ ma)) (le : Env.le ρx.e ρ) (h : ∀ o', PSs X rest (tS X.K ca W ρx emb' embB outR (ρ.set i (some (reO r o'))) (k o')))
    (hs : swapsWith e (some (.Attribute (.Name n p0) f pos')) pos.line X.env = pure false := by rfl) :
    PSs X (.Assign [.Attribute (.Name n p0) f pos'] e pos :: rest) (tS X.K ca W ρx emb' embB outR ρ (ma >>= fun a => O.setF cs f a o >>= k)) := by
  have q := s_setFldX (S := Unit) (os := fun _ => o) (k := fun o' _ => k o') hN hv hd hcd (fun _ => ho) T (x_pureO he le) (fun o' _ => h o') hs
  rw [res_assoc] at q
  exact q
end
end Lk
namespace Lk
open PySem PySem.Spec PyProof.Rows L2
/-! ### the block's context -/
section
variable {X : Cx} {W : WX} {σ σ' : L2.St} {H H' : Hp} {s s' : Shared} {pins pins' : List (Addr × Obj)} {scope : Scope} {ce : PySem.Env} {fp : List Addr} {elt tg iter : Expr} {ifs : List Expr}
abbrev blkX (X : Cx) (s : Shared) (H : Hp) (scope : Scope) (ce : PySem.Env) (fp : List Addr) (xe : Value → Shared → Prop) : Cx := { Cx.blk X s H scope ce fp with xe := xe }
theorem inv_blkX {xe : Value → Shared → Prop} (I : Inv (Cx.blk X s H scope ce fp) pins' σ' H' s') : Inv (blkX X s H scope ce fp xe) pins' σ' H' s' :=
  ⟨⟨I.ok.mod, I.ok.kind, I.ok.glob, I.ok.blt, I.ok.above, I.ok.inj, I.ok.has, I.ok.cab, I.ok.hd, I.ok.frames, I.ok.stk, I.ok.exf, I.ok.bs, I.ok.bsz, I.ok.noex, I.ok.exfs, I.ok.funs, I.ok.frf⟩, I.os, I.bare, I.base, I.loc, I.cell, I.free, I.freeC, I.pin, I.hok, I.len⟩
theorem ends_err {M : Model} {A : Around} {E : Value → Shared → Prop} {use : Option (Value → Sem Unit)} {Q : Value → Shared → Prop} {acc x : Value} {ce : PySem.Env} {s : Shared} : CompFails M A E ce x s → compEnds M A E use Q acc ce (.error x) s := fun h => by
  cases use <;> exact h
theorem err_ends {M : Model} {A : Around} {E : Value → Shared → Prop} {use : Option (Value → Sem Unit)} {Q : Value → Shared → Prop} {acc x : Value} {ce : PySem.Env} {s : Shared} : compEnds M A E use Q acc ce (.error x) s → CompFails M A E ce x s := fun h => by
  cases use <;> exact h
/-- what the block owes where something is raised within -/
def xeB (X : Cx) (ce : PySem.Env) : Value → Shared → Prop := notedBy (model X.prog X.w) X.A ce (CompFails (model X.prog X.w) X.A X.xe ce)
theorem traced_same {h h2 B : Heap} {a C : Addr} {Z : Obj → Prop} {fl : Value} {m : Str → Option Value} (t : HandSPX.TracedZ h B a Z fl) (hn : h.Ns C m) (sb : Heap.SameBut C h h2) : HandSPX.TracedZ h2 B a Z fl := by
  obtain ⟨oe, vs, T, oT, ts, e1, z, d1, f1, nT, ne, e2, d2, f2⟩ := t
  obtain ⟨oC, es, ep, eC, dC, _⟩ := hn
  have na : a ≠ C := fun q => by
    rw [q, eC] at e1; cases e1
    rw [dC] at d1; cases d1
  have nT' : T ≠ C := fun q => by
    rw [q, eC] at e2; cases e2
    rw [dC] at d2; cases d2
  exact ⟨oe, vs, T, oT, ts, (sb.2 a na).trans e1, z, d1, f1, nT, ne, (sb.2 T nT').trans e2, d2, f2⟩
/-- what a call lets out within the block goes on in the def's own air -/
theorem blk_raise (hs : X.stack = X.env :: X.outer) (hf : X.env.frame = some X.env.locals) (tk : Takes X W) (I : Inv X pins σ H s) (hfp : ∀ b ∈ fp, FpOk X pins H b) (cf : ce.frame = X.env.frame) (cl : ce.locals = s.heap.objs.size) :
    TkE (blkX X s H scope ce fp (xeB X ce)) (fun c d _ H' => W c d σ H') := by
  intro σb pb Hb sb e s' Ib cx
  have x := XE.of_call (X := blkX X s H scope ce fp (xeB X ce)) (W := fun c d _ H' => W c d σ H') Ib (fun _ _ _ h => h) cx
  obtain ⟨a0, B0, H0, c0, d0, e0, fl0, _⟩ := cx
  obtain ⟨a, B, sI, pI, σI, H1, cls, d, e1, II, nb, up, sky, na, os, ag, w⟩ := x
  rw [e0] at e1
  cases e1
  subst e0
  have fl : HandSPX.FlyingZ B X.stack a0 (Zc cls d) s'.heap := by
    obtain ⟨_, _, _, oe, vs, T, oT, ts, e1, _, d1, f1, _, _, e2, d2, f2⟩ := fl0
    rcases sky with ⟨_, _, _, oe', vs', e1', _, d1', f1'⟩ | z | ⟨_, _, _, oe', vs', T', oT', ts', e1', _, d1', f1', _, _, e2', d2', f2'⟩
    · rw [e1] at e1'; cases e1'
      rw [d1] at d1'; cases d1'
      rw [f1] at f1'; cases f1'
    · exact z
    · rw [e1] at e1'; cases e1'
      rw [d1] at d1'; cases d1'
      rw [f1] at f1'; cases f1'
      rw [e2] at e2'; cases e2'
      rw [d2] at d2'; cases d2'
      rw [f2] at f2'; simp [rawInt] at f2'
  have fr : X.A.frames = some (X.env :: X.outer) := by rw [I.ok.frames, hs]
  show wpAny _ X.A (noteFrame (.ref a0) ce) _ _ s'
  rw [noteFrame_env _ cf]
  rw [hs] at fl
  refine HandSPX.looks_onZ Zc.steady fr hf fl fun h1 held1 up1 => ?_
  -- the block's dict
  obtain ⟨m, hnI, _⟩ := II.loc
  have hnI : sI.heap.Ns ce.locals m := hnI
  have hn1 : h1.Ns ce.locals m := Heap.Ns.upToSlots hnI (up.trans up1)
  refine ⟨m, hn1, fun h2 m2 hn2 sb2 => ?_⟩
  have hn2 : h2.Ns ce.locals m2 := hn2
  obtain ⟨k1, k2, k3, k4⟩ := held1
  have nC : H1 ce.locals = none := II.free
  have CnF : ce.locals ∉ frs X.stack := fun z => by
    rcases List.mem_cons.mp (I.stkSub _ z) with q | q
    · exact Nat.ne_of_gt (Nat.lt_of_lt_of_eq I.lt cl.symm) q
    · exact I.nofs (Nat.le_of_eq cl.symm) q
  obtain ⟨oC, _, _, eC, _⟩ := id hnI
  have BC : B.get? ce.locals = some oC := nb _ _ eC CnF
  obtain ⟨o2, es2, ep2, eC2, dC2, _⟩ := id hn2
  have fr2 : o2.isFreed = false := Obj.isFreed_of_dict dC2
  have ups : ∀ (g : Heap) (o : Obj), g.get? ce.locals = some o → (g.update ce.locals fun _ => o2).get? ce.locals = some o2 := fun g o q => Heap.get?_update_self _ q fr2
  have upo : ∀ (g : Heap) (b : Addr), b ≠ ce.locals → (g.update ce.locals fun _ => o2).get? b = g.get? b := fun g b q => Heap.get?_update_other _ _ (Ne.symm q)
  generalize hB2 : (B.update ce.locals fun _ => o2) = B2
  have B2C : B2.get? ce.locals = some o2 := by rw [← hB2]; exact ups B oC BC
  have B2o : ∀ b, b ≠ ce.locals → B2.get? b = B.get? b := fun b q => by rw [← hB2]; exact upo B b q
  have B2n : ∀ b, B.get? b = none → B2.get? b = none := fun b q => by
    rw [B2o b fun z => by rw [z, BC] at q; cases q]
    exact q
  have held2 : HandSPX.HeldZ B2 (X.env :: X.outer) a0 (Zc cls d) X.env.locals h2 := by
    refine ⟨fun b o e => ?_, B2n _ k2, funFrames_none (Heap.FunFrames.sameBut sb2 hn2 k3) fun L hL => B2n _ (k3.mem hL).1, ?_⟩
    · by_cases q : b = ce.locals
      · subst q
        rw [B2C] at e; cases e
        exact eC2
      · rw [B2o b q] at e
        exact (sb2.2 b q).trans (k1 b o e)
    · obtain ⟨oe, vs, T, oT, ts, e1, z, d1, f1, nT, r⟩ := traced_same k4 hn1 sb2
      exact ⟨oe, vs, T, oT, ts, e1, z, d1, f1, B2n _ nT, r⟩
  obtain ⟨oe, vs, T, oT, ts, e1, z1, d1, f1, _⟩ := id held2.2.2.2
  unfold PySem.passOn
  refine wpAny_bind (wpAny_field e1 d1 f1 ?_)
  rw [if_neg (show ¬ ((Value.ref T == Value.none) = true) from by simp)]
  rw [show ce.frame = some X.env.locals from cf.trans hf]
  refine wpAny_bind (HandSPX.setFlight_onZ held2 fun h3 held3 up3 => wpAny_throw ?_)
  have J7 : Inv X pins σ H1 sI := I.call' (ch := fp) II.os II.base II.hok II.bare fun b hb => ⟨(hfp b hb).2.2.2.1, (hfp b hb).2.1, (hfp b hb).2.2.2.2.1, (hfp b hb).2.2.2.2.2⟩
  obtain ⟨f0, f1, f2, f3, f4, f5⟩ := I.fpOk (Nat.le_of_eq cl.symm) nC
  have J8 := J7.turned (t' := sI.toks) (it := ce.locals) (h' := sI.heap.update ce.locals fun _ => o2) (fun b o q e => (upo _ b q).trans e) f0 f1 f3 f4 f5
  refine tk (.ref a0) _ ⟨a0, B2, _, pins, σ, H1, cls, d, rfl, J8, fun b o e hb => ?_, fun b o e hnf => ?_, .inr (.inr (by rw [hs]; exact held3)), na, os, ag, w⟩
  · by_cases q : b = ce.locals
    · subst q
      have e : (sI.heap.update ce.locals fun _ => o2).get? ce.locals = some o := e
      rw [ups _ _ eC] at e; cases e
      exact B2C
    · have e : (sI.heap.update ce.locals fun _ => o2).get? b = some o := e
      rw [upo _ _ q] at e
      rw [B2o b q]
      exact nb b o e hb
  · by_cases q : b = ce.locals
    · subst q
      have e : (sI.heap.update ce.locals fun _ => o2).get? ce.locals = some o := e
      rw [ups _ _ eC] at e; cases e
      exact up3 _ _ eC2 hnf
    · have e : (sI.heap.update ce.locals fun _ => o2).get? b = some o := e
      rw [upo _ _ q] at e
      obtain ⟨sl, r1⟩ := up b o e hnf
      obtain ⟨sl1, r2⟩ := up1 b _ r1 hnf
      obtain ⟨sl2, r3⟩ := up3 b _ ((sb2.2 b q).trans r2) hnf
      exact ⟨sl2, r3⟩
end
/-! ### the comprehension -/
section
variable {X : Cx} {W : WX}
theorem lcx_core {pins : List (Addr × Obj)} {s : Shared} {σ : L2.St} {H : Hp} {Q : VK} {elt tg iter : Expr} {ifs : List Expr} {scope : Scope} {own : List (Str × Nat)} {pos pos' : Pos} {wi : TI} {g : TG} {tt : TT} {te : TE} {use : Option (Value → Sem Unit)} {Qf : Value → Shared → Prop}
    (hc : X.calm = true) (hN : X.N.Nodup) (hs : X.stack = X.env :: X.outer) (hf : X.env.frame = some X.env.locals) (tk : Takes X W) (I : Inv X pins σ H s) (hi : PI X tg iter wi) (ok : BlkOk X.N X.env.scope scope own)
    (hg : ∀ (s : Shared) (H : Hp) (C : Addr) (cl : List (Str × Addr)) (fp : List Addr) (xe : Value → Shared → Prop), PG (blkX X s H scope (compEnvC scope cl C X.env) fp xe) tg g)
    (ht : ∀ (s : Shared) (H : Hp) (C : Addr) (cl : List (Str × Addr)) (fp : List Addr) (xe : Value → Shared → Prop), TkE (blkX X s H scope (compEnvC scope cl C X.env) fp xe) (fun c d _ H' => W c d σ H') → PTs (blkX X s H scope (compEnvC scope cl C X.env) fp xe) ifs tt)
    (he : ∀ (s : Shared) (H : Hp) (C : Addr) (cl : List (Str × Addr)) (fp : List Addr) (xe : Value → Shared → Prop), TkE (blkX X s H scope (compEnvC scope cl C X.env) fp xe) (fun c d _ H' => W c d σ H') → PE (blkX X s H scope (compEnvC scope cl C X.env) fp xe) elt te)
    (hsi : ∀ x, foldedSetIterable iter X.env x = pure x) (h : tLc wi g tt te (own.map (·.2)) σ H Q)
    (fin : ∀ D (ce : PySem.Env) s' m H', Inv X pins σ H' s' → Q (.ref D) H' → s'.heap.Ns ce.locals m → FpOk X pins H' ce.locals → compEnds (model X.prog X.w) X.A X.xe use Qf (.ref D) ce (.ok .next) s') :
    wpAny (model X.prog X.w) X.A (comprehension (.ListComp elt [⟨tg, iter, ifs, 0⟩] scope pos) scope X.env pos' (newList []) false (eval iter X.env) use) Qf X.xe s := by
  have cap : ∀ y ∈ scope.names, y.2 = .free → ∃ c, X.env.cells.lookup y.1 = some c := fun y hy e =>
    (ok.free y hy e).elim (fun k => I.ok.has _ (.inl k)) fun k => I.ok.has _ (.inr k)
  refine comprehension_at (use := use) rfl hsi (closure_ok cap) ok.kind (fun y hy e => (ok.uniq y hy).trans (by rw [e])) ?_
  refine thn (hi.run pins s σ H _ I h) fun xv sx hx => thn hx fun itv si hit => ?_
  obtain ⟨it, fp, tn, J, Hi, rfl, Ii, T, sti, fpi, turn0⟩ := hit
  refine wpAny_newObj_type (newEnv_comp ?_) (Nat.zero_le _)
  obtain ⟨D, hD⟩ : ∃ D, D = si.heap.objs.size := ⟨_, rfl⟩
  have freeD : Hi D = none := Ii.hok.fresh (Nat.le_of_eq hD.symm)
  obtain ⟨Wt, ⟨m0, w0⟩, turn⟩ := turn0 D freeD
  obtain ⟨sl, hsl⟩ : ∃ sl : Shared, sl = { si with heap := si.heap.push { cls := .type "list", data := .seq ([] : List Value).toArray } } := ⟨_, rfl⟩
  have hl : sl.heap = si.heap.push { cls := .type "list", data := .seq ([] : List Value).toArray } := by rw [hsl]
  have keepL : ∀ b o, si.heap.get? b = some o → sl.heap.get? b = some o := fun b o e => by rw [hl]; exact Heap.get?_push_of_some _ e
  obtain ⟨Hl, hHl⟩ : ∃ Hl : Hp, Hl = upd Hi D (.lst []) := ⟨_, rfl⟩
  have Il : Inv X pins σ Hl sl := by
    rw [hsl, hHl]
    refine Ii.laid (t' := si.toks) (fun b o e => Heap.get?_push_of_some _ e) (Nat.le_of_eq hD.symm) ⟨Nat.zero_le _, [], 0, .nil, ?_⟩
    rw [hD]
    exact Heap.get?_push_size _ rfl
  have lt : ∀ b ∈ fp, b < si.heap.objs.size := fun b hb => Heap.lt_size (T.obj _ _ sti b hb).choose_spec.1
  have fpl : ∀ b ∈ fp, FpOk X pins Hl b ∧ b < sl.heap.objs.size := fun b hb => by
    refine ⟨⟨?_, (fpi b hb).2⟩, by rw [hl, Heap.size_push]; exact Nat.lt_succ_of_lt (lt b hb)⟩
    rw [hHl, upd_ne (by rw [hD]; exact Nat.ne_of_lt (lt b hb))]
    exact (fpi b hb).1
  have Ib0 := block_start Il ok hN fpl
  obtain ⟨ce, hce⟩ : ∃ ce, ce = compEnvC scope (cellsFrom (sl.heap.objs.size + 1) scope.names (cloFrom X.env.cells scope.names [])) sl.heap.objs.size X.env := ⟨_, rfl⟩
  obtain ⟨sb, hsb⟩ : ∃ sb : Shared, sb = { sl with heap := pushCells (sl.heap.push { cls := .type "dict", data := .dict #[] }) scope.names } := ⟨_, rfl⟩
  rw [← hce, ← hsb] at Ib0
  have Ib := inv_blkX (xe := xeB X ce) Ib0
  have cl : ce.locals = sl.heap.objs.size := by rw [hce]; rfl
  have cf : ce.frame = X.env.frame := by rw [hce]; rfl
  have tkb := blk_raise (scope := scope) hs hf tk Il (fun b hb => (fpl b hb).1) cf cl
  have pg : PG (blkX X sl Hl scope ce fp (xeB X ce)) tg g := by
    have z := hg sl Hl sl.heap.objs.size (cellsFrom (sl.heap.objs.size + 1) scope.names (cloFrom X.env.cells scope.names [])) fp (xeB X ce)
    rw [← hce] at z
    exact z
  have pt : PTs (blkX X sl Hl scope ce fp (xeB X ce)) ifs tt := by
    have z := ht sl Hl sl.heap.objs.size (cellsFrom (sl.heap.objs.size + 1) scope.names (cloFrom X.env.cells scope.names [])) fp (xeB X ce)
    rw [← hce] at z
    exact z tkb
  have pe : PE (blkX X sl Hl scope ce fp (xeB X ce)) elt te := by
    have z := he sl Hl sl.heap.objs.size (cellsFrom (sl.heap.objs.size + 1) scope.names (cloFrom X.env.cells scope.names [])) fp (xeB X ce)
    rw [← hce] at z
    exact z tkb
  have stb : tn 0 sb.heap := T.keep _ _ _ sti fun b _ o e => by
    rw [hsb]
    exact pushCells_keeps _ _ _ _ (Heap.get?_push_of_some _ (keepL b o e))
  have nfp : ∀ b ∈ fp, Hl b = none := fun b hb => (fpl b hb).1.1
  rw [hHl] at nfp
  rw [← hHl] at w0 nfp
  have stand : ∀ {σ' : L2.St} {H' : Hp} {s' : Shared}, Inv (blkX X sl Hl scope ce fp (xeB X ce)) [] σ' H' s' → (∀ b ∈ fp, H' b = none) → ∀ b ∈ fp, FpOk (blkX X sl Hl scope ce fp (xeB X ce)) [] H' b := fun I' hn b hb =>
    ⟨hn b hb, (I'.ok.exf b hb).1, I'.ok.exfs b hb, .inl hb, fun x c e => (I'.ok.exf b hb).2 x c e, fun p hp => absurd (show p ∈ ([] : List (Addr × Obj)) ++ [] from hp) (by simp)⟩
  have loop : codeAny (model X.prog X.w) X.A (.compLoop (.ListComp elt [⟨tg, iter, ifs, 0⟩] scope pos) 0 (.ref it) (.ref D) ce) (compEnds (model X.prog X.w) X.A X.xe use Qf (.ref D) ce) sb := by
    refine compLoop_any (fun n s' => ∃ i H', Inv (blkX X sl Hl scope ce fp (xeB X ce)) [] (wipe σ (own.map (·.2))) H' s' ∧ tn i s'.heap ∧ (∀ b ∈ fp, H' b = none) ∧ Wt i n H') ?_ m0 ⟨0, Hl, Ib, stb, nfp, w0⟩
    rintro n t5 ⟨i, G5, J5, tn5, no5, wt5⟩
    have wide : ∀ {x : Value} {s' : Shared}, xeB X ce x s' → notedBy (model X.prog X.w) X.A ce (fun e s' => compEnds (model X.prog X.w) X.A X.xe use Qf (.ref D) ce (.error e) s') x s' := fun z =>
      wpAny_mono z (fun _ _ q => ends_err q) fun _ _ q => ends_err q
    rcases turn i n G5 wt5 with ⟨stop, qq⟩ | ⟨go, Nx, down, step⟩
    · refine thn (T.done (blkX X sl Hl scope ce fp (xeB X ce)) rfl rfl rfl hc i [] t5 _ G5 _ J5 (stand J5 no5) tn5 stop) fun r t6 ⟨hr, J6⟩ => ?_
      subst hr
      have J7 : Inv X pins σ G5 t6 := Il.call' (ch := fp) J6.os J6.base J6.hok J6.bare fun b hb => ⟨(fpl b hb).1.2.2.2.1, (fpl b hb).1.2.1, (fpl b hb).1.2.2.2.2.1, (fpl b hb).1.2.2.2.2.2⟩
      have nC : G5 ce.locals = none := J6.free
      obtain ⟨m, hn, _⟩ := J6.loc
      have hn : t6.heap.Ns ce.locals m := hn
      exact fin D ce t6 m G5 J7 qq hn (Il.fpOk (Nat.le_of_eq cl.symm) nC)
    · refine thn (T.item (blkX X sl Hl scope ce fp (xeB X ce)) rfl rfl rfl hc i [] t5 _ G5 _ J5 (stand J5 no5) tn5 go) fun r t6 ⟨u, hr, u6⟩ => ?_
      subst hr
      refine thn u6 fun _ t7 ⟨x, G7, J7, rv7, yd7, tn7, no7⟩ => ?_
      have J7p := J7.pinned (stand J7 no7) (T.obj _ _ tn7)
      refine wpAny_mono (pg.run _ t7 _ G7 x u _ J7p rv7 (step x G7 yd7)) (fun _ t8 u8 => ?_) fun _ _ z => wide z
      obtain ⟨τ8, G8, J8, wp8, z8⟩ := u8
      refine wpAny_mono (pt.run _ t8 τ8 G8 _ J8 z8) (fun b t9 u9 => ?_) fun _ _ z => wide z
      obtain ⟨G9, J9, z9⟩ := u9
      have next : ∀ {s' : Shared} {H' : Hp}, Inv (blkX X sl Hl scope ce fp (xeB X ce)) ([] ++ pinsAt fp t7.heap) τ8 H' s' → Nx H' → ∃ m, m < n ∧ ∃ i H', Inv (blkX X sl Hl scope ce fp (xeB X ce)) [] (wipe σ (own.map (·.2))) H' s' ∧ tn i s'.heap ∧ (∀ b ∈ fp, H' b = none) ∧ Wt i m H' := fun {s' H'} I' nx => by
        obtain ⟨m', lm, wm⟩ := down H' nx
        have at7 : ∀ b ∈ fp, ∀ o, t7.heap.get? b = some o → s'.heap.get? b = some o ∧ H' b = none := fun b hb o e =>
          have z := I'.pin (b, o) (List.mem_append_right _ (List.mem_append_right _ (mem_pinsAt hb e)))
          ⟨z.1, z.2.1⟩
        refine ⟨m', lm, i + 1, H', (I'.unpinned (pins := [])).weak (by rw [← wp8, wipe_length]) (fun j v e => ?_), T.keep _ _ _ tn7 fun b hb o e => (at7 b hb o e).1, fun b hb => ?_, wm⟩
        · rw [← wp8] at e
          exact (wipe_some e).1
        · obtain ⟨o, e, _⟩ := T.obj _ _ tn7 b hb
          exact (at7 b hb o e).2
      cases b with
      | false =>
        rw [if_neg Bool.false_ne_true] at z9 ⊢
        exact next J9 z9
      | true =>
        rw [if_pos rfl] at z9 ⊢
        refine wpAny_mono (pe.run _ t9 τ8 G9 _ J9 z9) (fun z t10 u10 => ?_) fun _ _ z => wide z
        obtain ⟨yv, G10, J10, rv10, acc, dD10, lz10, nx⟩ := u10
        exact app_ok (X := blkX X sl Hl scope ce fp (xeB X ce)) J10 dD10 lz10 rv10 fun t11 J11 => next J11 nx
  have start := codeAny_compStart_list loop (T.self X.A 0 _ _ _ stb loop)
  rw [hce, hsb, hsl, hD] at start
  exact start
end
/-- a comprehension, what its element raises goes on -/
def compX (F : D → Res (Option D)) : List D → Res (List D)
  | [] => .ok []
  | x :: xs => F x >>= fun o => compX F xs >>= fun ys => .ok (match o with | some y => y :: ys | none => ys)
@[simp] theorem compX_nil (F : D → Res (Option D)) : compX F [] = .ok [] := rfl
theorem compX_cons (F : D → Res (Option D)) (x : D) (xs : List D) : compX F (x :: xs) = F x >>= fun o => compX F xs >>= fun ys => .ok (match o with | some y => y :: ys | none => ys) := rfl
section
variable {X : Cx} {ca : Nat → Addr} {W W' : WX} {ρ : Env} {tg iter elt : Expr} {ifs : List Expr} {scope : Scope} {own : List (Str × Nat)} {pos : Pos} {mi : Res (List D)} {F : D → Res (Option D)}
/-- the reading of a turn that may raise -/
def LcTurnX (X : Cx) (ca : Nat → Addr) (W' : WX) (ρ : Env) (vs : List Nat) (g : TG) (tt : TT) (te : TE) (F : D → Res (Option D)) : Prop :=
  ∀ (σ : L2.St) (x : D) (G H : Hp) (f : Nat → AS) (v : V) (Ky : V → Hp → Prop) (Kn : Hp → Prop), σ.length = X.N.length → EnvOk X.K ca G H (wipe σ vs) ρ f → R X.K ca G v x → F x ≠ .bug →
    (∀ y G' H', F x = .ok (some y) → Gb H G H G' H' → ∀ w, R X.K ca G' w y → Ky w H') → (∀ G' H', F x = .ok none → Gb H G H G' H' → Kn H') → (∀ c G' H', F x = .exc c → Gb H G H G' H' → ∀ τ, W' (.ref (ca c)) none τ H') →
    g v (wipe σ vs) H fun σ2 H2 => wipe σ2 vs = wipe σ vs ∧ tt σ2 H2 fun b H3 => if b = true then te σ2 H3 fun y H4 => Ky y H4 else Kn H3
theorem lcx_read {g : TG} {tt : TT} {te : TE} {vs : List Nat} {ρi : Env} (lei : Env.le ρi ρ) {σ : L2.St} {H : Hp} {Q : VK} (tn : LcTurnX X ca (fun c d _ H' => W c d σ H') ρi vs g tt te F) (hc : clearE ρi vs = true) (hl : σ.length = X.N.length)
    (hq : tL X.K ca W ρ (mi >>= fun xs => lcSize xs >>= fun xs => compX F xs) σ H Q) : tLc (tIt X.K ca W ρ mi) g tt te vs σ H Q := by
  obtain ⟨Hb, G, h⟩ := hq
  refine ⟨Hb, G, h.cut fun xs G1 H1 ex g1 h1 J wk Dd hD => ?_⟩
  have hz : xs.length ≤ 100000 := by
    by_cases hz : xs.length ≤ 100000
    · exact hz
    · exact (h1.nb (by unfold lcSize; rw [if_neg hz]; rfl)).elim
  rw [lcSize_ok hz] at h1
  have h1 : Cr X.K ca W ρ σ Hb G1 H1 (compX F xs) _ := h1
  obtain ⟨f, E, hf⟩ := h1.env
  have gD : G1 Dd = none := h1.sub.free hD
  refine ⟨fun i m H' => m = xs.length - i ∧ i ≤ xs.length ∧ ∃ G' acc us, Gb Hb G1 H1 G' H' ∧ compX F xs = (compX F (xs.drop i) >>= fun rest => .ok (acc ++ rest)) ∧ acc.length ≤ i ∧ H' Dd = some (.lst us) ∧ RL X.K ca G' us acc ∧ G' Dd = none,
    ⟨xs.length, rfl, Nat.zero_le _, G1, [], [], Gb.own h1.sub hD, ?_, Nat.le_refl _, upd_same, .nil, gD⟩, ?_⟩
  · show compX F xs = compX F xs >>= fun rest => .ok rest
    cases compX F xs <;> rfl
  rintro i m H' ⟨rfl, hi, G', acc, us, gb, er, la, hu, rl, gd⟩
  by_cases hlt : i < xs.length
  · refine .inr ⟨wk.go i H' (gb.g.trans gb.sub) hlt, fun H'' => i + 1 ≤ xs.length ∧ ∃ G' acc us, Gb Hb G1 H1 G' H'' ∧ compX F xs = (compX F (xs.drop (i + 1)) >>= fun rest => .ok (acc ++ rest)) ∧ acc.length ≤ i + 1 ∧ H'' Dd = some (.lst us) ∧ RL X.K ca G' us acc ∧ G' Dd = none,
      fun H'' n => ⟨xs.length - (i + 1), by omega, rfl, n.1, n.2⟩, fun v H2 y => ?_⟩
    obtain ⟨d, G2, e1, gb2, rv⟩ := wk.yld i H' G' H' v H2 gb.g (Same.refl _) gb.sub hlt y
    have sbb : Same Hb H' := h1.sb.trans gb.h
    have gb3 : Gb Hb G' H' G2 H2 := Gb.of sbb gb2.grow
    have E2 : EnvOk X.K ca G2 H2 σ ρi f := (E.gb hf (gb.trans gb3)).weak lei
    have ed : xs.drop i = d :: xs.drop (i + 1) := by
      rw [List.drop_eq_getElem_cons hlt, (List.getElem?_eq_some_iff.mp e1).2]
    rw [ed, compX_cons] at er
    have stay : ∀ {G3 H3}, Gb H2 G2 H2 G3 H3 → G3 Dd = none := fun {G3 H3} gb4 => by
      have gd2 : G2 Dd = none := by
        cases q : G2 Dd with
        | none => rfl
        | some o =>
          rcases gb2.new Dd o q with z | z
          · rw [gd] at z; cases z
          · rw [hu] at z; cases z
      cases q : G3 Dd with
      | none => rfl
      | some o =>
        rcases gb4.new Dd o q with z | z
        · rw [gd2] at z; cases z
        · rw [gb2.h _ _ hu] at z; cases z
    have all : ∀ {G3 H3}, Gb H2 G2 H2 G3 H3 → Gb Hb G1 H1 G3 H3 := fun gb4 => (gb.trans gb3).trans (Gb.of (sbb.trans gb2.h) gb4.grow)
    have nb : F d ≠ .bug := fun z => h1.nb (by rw [er, z]; rfl)
    refine tn σ d G2 H2 f v _ _ hl (E2.wiped hc) rv nb (fun y G3 H3 ef gb4 w rw' => ?_) (fun G3 H3 ef gb4 => ?_) fun c G3 H3 ef gb4 τ => h1.ex c (by rw [er, ef]; rfl) G3 H3 (all gb4)
    · have hu3 : H3 Dd = some (.lst us) := gb4.h _ _ (gb2.h _ _ hu)
      have gd3 := stay gb4
      refine ⟨us, hu3, Nat.lt_of_le_of_lt (by rw [rl.length]; omega) (Nat.lt_of_lt_of_le (by omega : xs.length < 100001) (by decide)), hlt, G3, acc ++ [y], us ++ [w], ?_, ?_, by rw [List.length_append, List.length_singleton]; omega, upd_same, (rl.mono (gb2.g.trans gb4.g)).append (.cons rw' .nil), gd3⟩
      · refine ⟨(all gb4).g, fun a u z => ?_, fun a u z => ?_, (all gb4).new⟩
        · rw [upd_ne (ne_of_none z gd3)]; exact (all gb4).sub a u z
        · rw [upd_ne (ne_of_none z hD)]; exact (all gb4).h a u z
      · rw [er, ef]
        show (compX F (xs.drop (i + 1)) >>= _) >>= _ = _
        cases compX F (xs.drop (i + 1)) with
        | bug => rfl
        | exc c => rfl
        | ok r => show Res.ok (acc ++ (y :: r)) = Res.ok ((acc ++ [y]) ++ r); rw [List.append_assoc]; rfl
    · refine ⟨hlt, G3, acc, us, all gb4, ?_, by omega, gb4.h _ _ (gb2.h _ _ hu), rl.mono (gb2.g.trans gb4.g), stay gb4⟩
      rw [er, ef]
      show (compX F (xs.drop (i + 1)) >>= _) >>= _ = _
      cases compX F (xs.drop (i + 1)) <;> rfl
  · have ei : i = xs.length := by omega
    refine .inl ⟨wk.stop i H' (gb.g.trans gb.sub) ei, ?_⟩
    have ed : xs.drop i = [] := by rw [ei]; exact List.drop_length
    rw [ed] at er
    have er : compX F xs = .ok (acc ++ []) := er
    rw [List.append_nil] at er
    exact h1.ok acc er G' H' gb Dd us (h1.sb.free hD) gd hu rl
/-! a name is the target -/
variable {i j : Nat} {n y : Str} {p : Pos} {mt : D → Res Bool} {me : D → Res D}
theorem turnNX (hi : i < X.N.length) {vs : List Nat} (hv : i ∈ vs) : LcTurnX X ca W' ρ vs (gName i) (fun σ H Q => ∃ x, tB X.K ca W' (ρ.set i (some (.d x))) (mt x) σ H Q) (fun σ H Q => ∃ x, tD X.K ca W' (ρ.set i (some (.d x))) (me x) σ H Q) (lcF mt me) := by
  intro σ x G H f v Ky Kn hl E r nb ky kn kx
  have hiσ : i < (wipe σ vs).length := by rw [wipe_length, hl]; exact hi
  have E1 := E.put hiσ r
  have hf : ∀ k a, (if k = i then none_ else f k) a → ∃ u, H a = some u := fun k a q => (E1.out k a q).2
  refine ⟨wipe_eq (by rw [List.length_set, wipe_length]) fun k hk => by rw [List.getElem?_set_ne (fun e => hk (by rw [← e]; exact hv))], x, H, G, ?_⟩
  have C : Cr X.K ca W' (ρ.set i (some (.d x))) ((wipe σ vs).set i (some v)) H G H (mt x >>= fun b => if b then me x >>= fun y => .ok (some y) else .ok none) (fun o G' H' => match o with | some y => ∀ w, R X.K ca G' w y → Ky w H' | none => Kn H') := by
    refine ⟨Same.refl _, ⟨_, E1, hf⟩, fun e => nb (by unfold lcF; rw [e] <;> rfl), fun o e G' H' gb => ?_, fun c e G' H' gb => kx c G' H' (by unfold lcF; rw [e] <;> rfl) gb _⟩
    cases o with
    | some y => exact fun w rw' => ky y G' H' (by unfold lcF; rw [e] <;> rfl) gb w rw'
    | none => exact kn G' H' (by unfold lcF; rw [e] <;> rfl) gb
  exact C.cut fun b G1 H1 eb g1 h1 => by
    cases b with
    | true => exact ⟨x, H, G1, Cr.cut h1 fun z G2 H2 ez g2 h2 w rw' => h2.done w rw'⟩
    | false => exact h1.done
theorem ts_nilX : PTs X [] (tB X.K ca W ρ (.ok true)) := ⟨fun pins s σ H Q I ⟨Hb, G, h⟩ => pts_nil.run pins s σ H Q I h.done⟩
theorem ts_oneX {c : Expr} {m : Res Bool} (h : PT X c (tB X.K ca W ρ m)) : PTs X [c] (tB X.K ca W ρ m) := pts_one h
theorem e_lcNX (hc : X.calm = true) (hN : X.N.Nodup) (hs : X.stack = X.env :: X.outer) (hf : X.env.frame = some X.env.locals) (tk : Takes X W) (hi : PI X (.Name n p) iter (tIt X.K ca W ρ mi)) (hn : X.N[i]? = some n) (ok : BlkOk X.N X.env.scope scope own) {ρi : Env} (lei : Env.le ρi ρ) (hcl : clearE ρi (own.map (·.2)) = true) (hv : i ∈ own.map (·.2))
    (hg : ∀ (s : Shared) (H : Hp) (C : Addr) (cl : List (Str × Addr)) (fp : List Addr) (xe : Value → Shared → Prop), PG (blkX X s H scope (compEnvC scope cl C X.env) fp xe) (.Name n p) (gName i))
    (ht : ∀ (x : D) (s : Shared) (H : Hp) (C : Addr) (cl : List (Str × Addr)) (fp : List Addr) (xe : Value → Shared → Prop) (W' : WX), TkE (blkX X s H scope (compEnvC scope cl C X.env) fp xe) W' → PTs (blkX X s H scope (compEnvC scope cl C X.env) fp xe) ifs (tB X.K ca W' (ρi.set i (some (.d x))) (mt x)))
    (he : ∀ (x : D) (s : Shared) (H : Hp) (C : Addr) (cl : List (Str × Addr)) (fp : List Addr) (xe : Value → Shared → Prop) (W' : WX), TkE (blkX X s H scope (compEnvC scope cl C X.env) fp xe) W' → PE (blkX X s H scope (compEnvC scope cl C X.env) fp xe) elt (tD X.K ca W' (ρi.set i (some (.d x))) (me x)))
    (hsi : ∀ x, foldedSetIterable iter X.env x = pure x := by intro _; rfl) :
    PE X (.ListComp elt [⟨.Name n p, iter, ifs, 0⟩] scope pos) (tL X.K ca W ρ (mi >>= fun xs => lcSize xs >>= fun xs => compX (lcF mt me) xs)) := by
  refine ⟨fun pins s σ H Q I h => ?_⟩
  rw [eval_ListComp]
  refine lcx_core (tt := fun σ2 H2 Q2 => ∃ x, tB X.K ca (fun c d _ H' => W c d σ H') (ρi.set i (some (.d x))) (mt x) σ2 H2 Q2) (te := fun σ2 H2 Q2 => ∃ x, tD X.K ca (fun c d _ H' => W c d σ H') (ρi.set i (some (.d x))) (me x) σ2 H2 Q2)
    hc hN hs hf tk I hi ok hg (fun s0 H0 C cl fp xe tkb => ⟨fun pins s σ H Q I ⟨x, q⟩ => (ht x s0 H0 C cl fp xe _ tkb).run pins s σ H Q I q⟩) (fun s0 H0 C cl fp xe tkb => ⟨fun pins s σ H Q I ⟨x, q⟩ => (he x s0 H0 C cl fp xe _ tkb).run pins s σ H Q I q⟩) hsi
    (lcx_read lei (turnNX (List.getElem?_eq_some_iff.mp hn).1 hv) hcl I.len h) fun L ce s' m H' I' q hm fo => ?_
  obtain ⟨f0, f1, f2, f3, f4, f5⟩ := fo
  exact ⟨m, hm, fun h3 sb => ⟨.ref L, H', I'.turned (t' := s'.toks) (fun b o ne e => (sb.2 b ne).trans e) f0 f1 f3 f4 f5, rfl, q⟩⟩
/-- y = [..], y a local name -/
theorem s_setLcNX {S B T : Type} {emb : S → Env} {embB : B → Env} {out : T → RtP} {ρx : EX} {rest : List Stmt} {py spos : Pos} {k : List D → Res (Out S B T)} (hc : X.calm = true) (hN : X.N.Nodup) (hs : X.stack = X.env :: X.outer) (hf : X.env.frame = some X.env.locals) (tk : Takes X (fun c d σ H => W c d σ H))
    (hy : X.N[j]? = some y) (hyl : X.env.scope.names.lookup y = some .local)
    (hsw : swapsWith (.ListComp elt [⟨.Name n p, iter, ifs, 0⟩] scope pos) (some (.Name y py)) spos.line X.env = pure true)
    (hi : PI X (.Name n p) iter (tIt X.K ca W ρ mi)) (hn : X.N[i]? = some n) (ok : BlkOk X.N X.env.scope scope own) {ρi : Env} (lei : Env.le ρi ρ) (hcl : clearE ρi (own.map (·.2)) = true) (hv : i ∈ own.map (·.2)) (le : Env.le ρx.e ρ)
    (hg : ∀ (s : Shared) (H : Hp) (C : Addr) (cl : List (Str × Addr)) (fp : List Addr) (xe : Value → Shared → Prop), PG (blkX X s H scope (compEnvC scope cl C X.env) fp xe) (.Name n p) (gName i))
    (ht : ∀ (x : D) (s : Shared) (H : Hp) (C : Addr) (cl : List (Str × Addr)) (fp : List Addr) (xe : Value → Shared → Prop) (W' : WX), TkE (blkX X s H scope (compEnvC scope cl C X.env) fp xe) W' → PTs (blkX X s H scope (compEnvC scope cl C X.env) fp xe) ifs (tB X.K ca W' (ρi.set i (some (.d x))) (mt x)))
    (he : ∀ (x : D) (s : Shared) (H : Hp) (C : Addr) (cl : List (Str × Addr)) (fp : List Addr) (xe : Value → Shared → Prop) (W' : WX), TkE (blkX X s H scope (compEnvC scope cl C X.env) fp xe) W' → PE (blkX X s H scope (compEnvC scope cl C X.env) fp xe) elt (tD X.K ca W' (ρi.set i (some (.d x))) (me x)))
    (h : ∀ a, PSs X rest (tS X.K ca W ρx emb embB out (ρ.set j (some (.ol none a))) (k a)))
    (hsi : ∀ x, foldedSetIterable iter X.env x = pure x := by intro _; rfl) :
    PSs X (.Assign [.Name y py] (.ListComp elt [⟨.Name n p, iter, ifs, 0⟩] scope pos) spos :: rest) (tS X.K ca W ρx emb embB out ρ ((mi >>= fun xs => lcSize xs >>= fun xs => compX (lcF mt me) xs) >>= k)) := by
  have st : PS X (.Assign [.Name y py] (.ListComp elt [⟨.Name n p, iter, ifs, 0⟩] scope pos) spos) (tAsg (tL X.K ca W ρ (mi >>= fun xs => lcSize xs >>= fun xs => compX (lcF mt me) xs)) (gName j)) := by
    refine ⟨fun pins s σ H D I h => ?_⟩
    rw [exec_Assign_Name_used _ _ _ _ hsw]
    refine wpAny_bind (wpAny_standAt (wpAny_bind ?_))
    show wpAny _ X.A (do let _ ← comprehension (.ListComp elt [⟨.Name n p, iter, ifs, 0⟩] scope pos) scope X.env (firstIterPos [⟨.Name n p, iter, ifs, 0⟩] pos) (newList []) false (eval iter X.env) (some (assign (.Name y py) X.env))) _ _ s
    have h : tL X.K ca W ρ (mi >>= fun xs => lcSize xs >>= fun xs => compX (lcF mt me) xs) σ H (fun x H1 => gName j x σ H1 D.nx) := h
    refine wpAny_bind (thn (lcx_core (Qf := fun _ s' => SP X pins D .next s') (tt := fun σ2 H2 Q2 => ∃ x, tB X.K ca (fun c d _ H' => W c d σ H') (ρi.set i (some (.d x))) (mt x) σ2 H2 Q2) (te := fun σ2 H2 Q2 => ∃ x, tD X.K ca (fun c d _ H' => W c d σ H') (ρi.set i (some (.d x))) (me x) σ2 H2 Q2)
      hc hN hs hf tk I hi ok hg (fun s0 H0 C cl fp xe tkb => ⟨fun pins s σ H Q I ⟨x, q⟩ => (ht x s0 H0 C cl fp xe _ tkb).run pins s σ H Q I q⟩) (fun s0 H0 C cl fp xe tkb => ⟨fun pins s σ H Q I ⟨x, q⟩ => (he x s0 H0 C cl fp xe _ tkb).run pins s σ H Q I q⟩) hsi
      (lcx_read lei (turnNX (List.getElem?_eq_some_iff.mp hn).1 hv) hcl I.len h) fun L ce s' m H' I' q hm fo => ?_) fun _ s' hq => wpAny_pure (wpAny_pure hq))
    show wpAny _ _ (assign (.Name y py) X.env (.ref L)) _ _ _
    obtain ⟨f0, f1, f2, f3, f4, f5⟩ := fo
    refine wpAny_assign_Name (store_ok2 (v := V.ref L) I' hN hy (.inl hyl) rfl (fun s2 I2 ⟨a, sb, ha⟩ => ?_) (.inr hyl))
    have ne : ce.locals ≠ a := ha.elim (fun z => by rw [z]; exact f1) fun z e => f4 y a z e.symm
    exact ⟨m, hm.sameBut sb ne, fun h3 sb3 => ⟨_, H', I2.turned (t' := s2.toks) (fun b o hb e => (sb3.2 b hb).trans e) f0 f1 f3 f4 f5, q⟩⟩
  refine PSs.ofI (pss_cons st (PSs.any h)) fun D0 σ H hl ⟨G, f, E, hq⟩ => ?_
  refine (show tL X.K ca W ρ (mi >>= fun xs => lcSize xs >>= fun xs => compX (lcF mt me) xs) σ H (fun v H1 => ∃ a, tS X.K ca W ρx emb embB out (ρ.set j (some (.ol none a))) (k a) D0 (σ.set j (some v)) H1) from ⟨H, G, So.expr hq E le fun a G1 H1 ea g E1 h1 p vs hp gp hh rl => ?_⟩)
  have hiσ : j < σ.length := by rw [hl]; exact (List.getElem?_eq_some_iff.mp hy).1
  have new : ∀ j, ¬ f j p := fun j z => by
    obtain ⟨_, u, q⟩ := E.out j p z
    rw [hp] at q; cases q
  exact ⟨a, G1, _, E1.putL hiσ hh gp new rl, So.step (a := a) hq ea ⟨g.g, g.sub, fun x o z _ => g.h x o z, fun x o z => (g.new x o z).elim .inl fun q => .inr (.inl q), fun x z => (all_put z).elim (fun q => .inr (by rw [q]; exact hp)) .inl⟩⟩
end
end Lk
namespace Lk
open PySem PySem.Spec PyProof.Rows L2
section
variable {X : Cx} {ca : Nat → Addr} {W : WX} {ρ : Env} {pos p q : Pos} {i : Nat} {n : Str}
theorem e_mulO {r : Option V} {xs : List D} {k : Int} {j} (hN : X.N[i]? = some n) (hv : Vis X.env.scope n) (ho : ρ[i]? = some (some (.ol r xs))) (hd : (n == ("__debug__" : Str)) = false) (hcd : (n == ("__classdict__" : Str)) = false) :
    PE X (.BinOp (.Name n p) .Mult (.Constant (.int k) j q) pos) (tL X.K ca W ρ (D.rep xs (.int k))) :=
  PE.of (pe_op op_rep (pe_var hN hv hd hcd) pe_int) fun σ H Q ⟨Hb, G, h⟩ => by
    obtain ⟨f, E, hf⟩ := h.env
    obtain ⟨v, e1, e2⟩ := E.slot i _ ho
    cases e2 with
    | ol hh rl hF hr =>
      refine ⟨_, e1, ?_⟩
      by_cases z : (-(2 ^ 62) ≤ k ∧ k < 2 ^ 62) ∧ xs.length * k.toNat ≤ 100000
      · have er : D.rep xs (.int k) = .ok (List.replicate k.toNat xs).flatten := if_pos z
        refine ⟨_, k, _, rfl, rfl, hh, by omega, by omega, Nat.le_trans (by rw [rl.length]; exact z.2) (by decide), fun p2 hp2 => ?_⟩
        exact h.ok _ er _ _ (Gb.own h.sub hp2) p2 _ (h.sb.free hp2) (h.sub.free hp2) upd_same (rl.rep k.toNat)
      · exact (h.nb (if_neg z)).elim
end
end Lk
namespace Lk
open PySem PySem.Spec PyProof.Rows L2
theorem compR_map {α : Type} {F : D → Res (Option D)} (c : α → D) (g : α → D) : ∀ {xs : List α}, (∀ x ∈ xs, F (c x) = .ok (some (g x))) → compR F (xs.map c) = .ok (xs.map g)
  | [], _ => rfl
  | x :: xs, h => by
    simp only [List.map_cons, compR, h x List.mem_cons_self, compR_map c g (xs := xs) fun y hy => h y (List.mem_cons_of_mem _ hy)]
    rfl
theorem compR_filter {α : Type} {F : D → Res (Option D)} (c : α → D) (p : α → Bool) (g : α → D) : ∀ {xs : List α}, (∀ x ∈ xs, F (c x) = .ok (if p x then some (g x) else none)) → compR F (xs.map c) = .ok ((xs.filter p).map g)
  | [], _ => rfl
  | x :: xs, h => by
    simp only [List.map_cons, compR, h x List.mem_cons_self, compR_filter c p g (xs := xs) fun y hy => h y (List.mem_cons_of_mem _ hy)]
    cases q : p x <;> simp [List.filter_cons, q]
section
variable {S B T : Type}
/-- a loop whose turns go on: an invariant by the turn -/
theorem loopR_inv {step : S → D → Res (Out S S T)} : ∀ (xs : List D) (P : Nat → S → Prop) {s : S}, P 0 s →
    (∀ k (hk : k < xs.length) s, P k s → ∃ s', step s xs[k] = .ok (.nx s') ∧ P (k + 1) s') → ∃ s', (loopR step xs s : Res (Out S B T)) = .ok (.nx s') ∧ P xs.length s'
  | [], P, s, h0, _ => ⟨s, rfl, h0⟩
  | x :: xs, P, s, h0, h => by
    obtain ⟨s1, e1, h1⟩ := h 0 (Nat.zero_lt_succ _) s h0
    obtain ⟨s2, e2, h2⟩ := loopR_inv xs (fun k => P (k + 1)) h1 fun k hk s q => h (k + 1) (Nat.succ_lt_succ hk) s q
    refine ⟨s2, ?_, h2⟩
    have e1' : step s x = .ok (.nx s1) := e1
    simp only [loopR, e1']
    exact e2
/-- a loop as a fold -/
theorem loopR_fold {α σ : Type} {step : S → D → Res (Out S S T)} (c : α → D) (st : σ → S) (f : σ → α → σ) : ∀ (xs : List α) {s : σ}, (∀ s, ∀ x ∈ xs, step (st s) (c x) = .ok (.nx (st (f s x)))) →
    (loopR step (xs.map c) (st s) : Res (Out S B T)) = .ok (.nx (st (xs.foldl f s)))
  | [], _, _ => rfl
  | x :: xs, s, h => by
    have e := h s x List.mem_cons_self
    simp only [List.map_cons, loopR, e]
    exact loopR_fold c st f xs fun s y hy => h s y (List.mem_cons_of_mem _ hy)
/-- a loop whose state stays -/
theorem loopR_stay {α : Type} {step : S → D → Res (Out S S T)} (c : α → D) {s : S} : ∀ (xs : List α), (∀ x ∈ xs, step s (c x) = .ok (.nx s)) → (loopR step (xs.map c) s : Res (Out S B T)) = .ok (.nx s)
  | [], _ => rfl
  | x :: xs, h => by
    have e := h x List.mem_cons_self
    simp only [List.map_cons, loopR, e]
    exact loopR_stay c xs fun y hy => h y (List.mem_cons_of_mem _ hy)
/-- a loop over a range, the state told by the turn -/
theorem loopR_range {step : S → D → Res (Out S S T)} {s0 : S} (f : Nat → S) : ∀ (n : Nat), s0 = f 0 → (∀ k, k < n → step (f k) (.int (k : Int)) = .ok (.nx (f (k + 1)))) →
    (loopR step ((List.range n).map fun k : Nat => D.int (k : Int)) s0 : Res (Out S B T)) = .ok (.nx (f n)) := by
  intro n e0 h
  subst e0
  obtain ⟨s, e, hs⟩ := loopR_inv (B := B) (T := T) (step := step) ((List.range n).map fun k : Nat => D.int (k : Int)) (fun k s => s = f k) (s := f 0) rfl (by
    intro k hk s hs
    subst hs
    have hk' : k < n := by simpa using hk
    refine ⟨_, ?_, rfl⟩
    rw [List.getElem_map, List.getElem_range]
    exact h k hk')
  rw [e, hs]
  simp
/-- a loop by the place, the state told by the turn -/
theorem loopR_at {step : S → D → Res (Out S S T)} {s0 : S} (xs : List D) (f : Nat → S) (e0 : s0 = f 0) (h : ∀ k (hk : k < xs.length), step (f k) xs[k] = .ok (.nx (f (k + 1)))) :
    (loopR step xs s0 : Res (Out S B T)) = .ok (.nx (f xs.length)) := by
  subst e0
  obtain ⟨s, e, hs⟩ := loopR_inv (B := B) (T := T) (step := step) xs (fun k s => s = f k) (s := f 0) rfl (by
    intro k hk s hs
    subst hs
    exact ⟨_, h k hk, rfl⟩)
  rw [e, hs]
@[simp] theorem loopR_cons {step : S → D → Res (Out S S T)} {x : D} {xs : List D} {s : S} : (loopR step (x :: xs) s : Res (Out S B T)) = (step s x >>= fun
    | .nx s' => loopR step xs s'
    | .ct s' => loopR step xs s'
    | .bk s' => .ok (.nx s')
    | .rt r => .ok (.rt r)
    | .ra c os => .ok (.ra c os)) := rfl
end
section
variable {S B T γ : Type}
/-- a loop under an invariant, and what comes behind -/
theorem loop_keep {α : Type} {step : S → D → Res (Out S S T)} {c : α → D} {xs : List α} {s : S} {k : Out S B T → Res γ} {r : Res γ} (P : S → Prop) (h0 : P s)
    (hs : ∀ s, P s → ∀ x ∈ xs, ∃ s', step s (c x) = .ok (.nx s') ∧ P s') (hk : ∀ s, P s → k (.nx s) = r) : (loopR step (xs.map c) s >>= k) = r := by
  obtain ⟨s', e, hs'⟩ := loopR_inv (B := B) (T := T) (step := step) (xs.map c) (fun _ s => P s) h0 (by
    intro j hj s hp
    rw [List.getElem_map]
    exact hs s hp _ (List.getElem_mem _))
  rw [e, bind_ok]
  exact hk s' hs'
theorem loop_keep_at {α : Type} {step : S → D → Res (Out S S T)} {c : α → D} {xs : List α} {s : S} {k : Out S B T → Res γ} {r : Res γ} (P : Nat → S → Prop) (h0 : P 0 s)
    (hs : ∀ j (hj : j < xs.length) s, P j s → ∃ s', step s (c xs[j]) = .ok (.nx s') ∧ P (j + 1) s') (hk : ∀ s, P xs.length s → k (.nx s) = r) : (loopR step (xs.map c) s >>= k) = r := by
  obtain ⟨s', e, hs'⟩ := loopR_inv (B := B) (T := T) (step := step) (xs.map c) P h0 (by
    intro j hj s hp
    rw [List.getElem_map]
    exact hs j (by simpa using hj) s hp)
  rw [e, bind_ok]
  exact hk s' (by simpa using hs')
theorem loop_keep_range {step : S → D → Res (Out S S T)} {n : Nat} {s : S} {k : Out S B T → Res γ} {r : Res γ} (P : Nat → S → Prop) (h0 : P 0 s)
    (hs : ∀ j, j < n → ∀ s, P j s → ∃ s', step s (.int (j : Int)) = .ok (.nx s') ∧ P (j + 1) s') (hk : ∀ s, P n s → k (.nx s) = r) : (loopR step ((List.range n).map fun k : Nat => D.int (k : Int)) s >>= k) = r := by
  refine loop_keep_at (c := fun k : Nat => D.int (k : Int)) P h0 (fun j hj s hp => ?_) (fun s hp => hk s (by simpa using hp))
  rw [List.getElem_range]
  exact hs j (by simpa using hj) s hp
theorem fin_bind {S' : Type} {m : Res γ} {f : γ → Res (Out S' B D)} : fin (m >>= f) = (m >>= fun a => fin (f a)) := by cases m <;> rfl
theorem finL_bind {S' : Type} {m : Res γ} {f : γ → Res (Out S' B (List D))} : finL (m >>= f) = (m >>= fun a => finL (f a)) := by cases m <;> rfl
end
theorem rangeD_get {lo : Int} {n k : Nat} (h : k < (rangeD lo n).length) : (rangeD lo n)[k] = .int (lo + (k : Int)) := by simp [rangeD]
theorem rangeD_map {n : Nat} : rangeD 0 n = (List.range n).map fun k : Nat => D.int (k : Int) := by simp [rangeD]
theorem range1_nat {n : Nat} (h : n ≤ 100000) : D.range1 [.int (n : Int)] = .ok ((List.range n).map fun k : Nat => D.int (k : Int)) := by
  have l : -(4611686018427387904 : Int) ≤ (n : Int) := by omega
  have r : (n : Int) < 4611686018427387904 := by omega
  have e : inB (n : Int) = true := decide_eq_true ⟨l, r⟩
  rw [range1_ok e, Int.toNat_natCast, rangeD_map]
theorem atI_nat {α : Type} {xs : List α} {k : Nat} (h : k < xs.length) : L2.atI xs (k : Int) = some xs[k] := by
  unfold L2.atI L2.ixN
  have : ¬ (k : Int) < 0 := by omega
  simp [h]
theorem item_lst {xs : List D} {k : Nat} (h : k < xs.length) : D.item (.lst xs) (.int (k : Int)) = .ok xs[k] := by simp [D.item, atI_nat h]
theorem item_tup {xs : List D} {k : Nat} (h : k < xs.length) : D.item (.tup xs) (.int (k : Int)) = .ok xs[k] := by simp [D.item, atI_nat h]
theorem cutD_to {α : Type} {xs : List α} {k : Nat} : cutD xs none (some (k : Int)) = xs.take k := by
  unfold cutD
  rw [HT.sIx_nat, HT.sIx_none, List.drop_zero, Nat.sub_zero]
  rw [List.take_eq_take_iff]
  omega
theorem cutD_from {α : Type} {xs : List α} {k : Nat} : cutD xs (some (k : Int)) none = xs.drop k := by
  unfold cutD
  rw [HT.sIx_nat, HT.sIx_none]
  by_cases h : k ≤ xs.length
  · rw [Nat.min_eq_left h]
    exact List.take_of_length_le (by rw [List.length_drop]; exact Nat.le_refl _)
  · rw [Nat.min_eq_right (by omega), List.drop_of_length_le (Nat.le_refl _), List.drop_of_length_le (by omega), List.take_nil]
theorem slice_to {xs : List D} {k : Nat} : D.slice (.lst xs) none (some (k : Int)) = .ok (.lst (xs.take k)) := by
  show Res.ok (D.lst (cutD xs none (some (k : Int)))) = _
  rw [cutD_to]
theorem slice_from {xs : List D} {k : Nat} : D.slice (.lst xs) (some (k : Int)) none = .ok (.lst (xs.drop k)) := by
  show Res.ok (D.lst (cutD xs (some (k : Int)) none)) = _
  rw [cutD_from]
/-! equality of data -/
mutual
theorem eqv_refl : ∀ {n : Nat} {x : D}, D.fit n x = true → D.eqv x x = true
  | _, .non, _ => by simp [D.eqv]
  | _, .bl _, _ => by simp [D.eqv]
  | _, .int _, _ => by simp [D.eqv]
  | _, .str _, _ => by simp [D.eqv]
  | 0, .lst _, h => by simp [D.fit] at h
  | n + 1, .lst xs, h => by
    simp only [D.fit] at h
    simp only [D.eqv]
    exact eqvL_refl h
  | 0, .tup _, h => by simp [D.fit] at h
  | n + 1, .tup xs, h => by
    simp only [D.fit] at h
    simp only [D.eqv]
    exact eqvL_refl h
  | 0, .ins _ _, h => by simp [D.fit] at h
  | n + 1, .ins _ _, h => by simp [D.fit] at h
  | 0, .dic _, h => by simp [D.fit] at h
  | n + 1, .dic _, h => by simp [D.fit] at h
  | 0, .any, h => by simp [D.fit] at h
  | n + 1, .any, h => by simp [D.fit] at h
theorem eqvL_refl : ∀ {n : Nat} {xs : List D}, xs.all (D.fit n) = true → D.eqvL xs xs = true
  | _, [], _ => by simp [D.eqvL]
  | n, x :: xs, h => by
    simp only [List.all_cons, Bool.and_eq_true] at h
    simp only [D.eqvL, eqv_refl h.1, eqvL_refl h.2, Bool.and_self]
end
theorem eqB_same {x : D} (h : D.fit 20 x = true) : D.eqB x x = .ok true := by simp [D.eqB, h, eqv_refl h]
theorem eq_same {x : D} (h : D.fit 20 x = true) : D.eq x x = .ok (.bl true) := by simp [D.eq, eqB_same h]
theorem ne_same {x : D} (h : D.fit 20 x = true) : D.ne x x = .ok (.bl false) := by simp [D.ne, eqB_same h]
theorem fit_lst {α : Type} {n : Nat} {c : α → D} {xs : List α} (h : ∀ x ∈ xs, D.fit n (c x) = true) : D.fit (n + 1) (.lst (xs.map c)) = true := by
  simp only [D.fit, List.all_map, List.all_eq_true]
  exact h
theorem fit_tup {α : Type} {n : Nat} {c : α → D} {xs : List α} (h : ∀ x ∈ xs, D.fit n (c x) = true) : D.fit (n + 1) (.tup (xs.map c)) = true := by
  simp only [D.fit, List.all_map, List.all_eq_true]
  exact h
@[simp] theorem fit_int {n : Nat} {i : Int} : D.fit n (.int i) = true := by cases n <;> rfl
@[simp] theorem fit_bl {n : Nat} {i : Bool} : D.fit n (.bl i) = true := by cases n <;> rfl
@[simp] theorem fit_non {n : Nat} : D.fit n .non = true := by cases n <;> rfl
theorem fit_ints {n : Nat} {xs : List Int} : D.fit (n + 1) (.lst (xs.map D.int)) = true := fit_lst fun _ _ => fit_int
@[simp] theorem isInt_int (i : Int) : D.isT "int" (.int i) = .ok (.bl true) := rfl
@[simp] theorem isBool_int (i : Int) : D.isT "bool" (.int i) = .ok (.bl false) := rfl
@[simp] theorem isInt_bl (i : Bool) : D.isT "int" (.bl i) = .ok (.bl true) := rfl
@[simp] theorem isBool_bl (i : Bool) : D.isT "bool" (.bl i) = .ok (.bl true) := rfl
@[simp] theorem truth_bl (b : Bool) : D.truth (.bl b) = .ok b := rfl
@[simp] theorem truth_int (b : Int) : D.truth (.int b) = .ok (b != 0) := rfl
@[simp] theorem truth_non : D.truth .non = .ok false := rfl
@[simp] theorem sized_0 : Res.sized [] = .ok [] := if_pos (by simp)
@[simp] theorem sized_1 {a : D} : Res.sized [a] = .ok [a] := if_pos (by simp)
@[simp] theorem sized_2 {a b : D} : Res.sized [a, b] = .ok [a, b] := if_pos (by simp)
@[simp] theorem sized_3 {a b c : D} : Res.sized [a, b, c] = .ok [a, b, c] := if_pos (by simp)
@[simp] theorem sized_4 {a b c d : D} : Res.sized [a, b, c, d] = .ok [a, b, c, d] := if_pos (by simp)
@[simp] theorem sized_5 {a b c d e : D} : Res.sized [a, b, c, d, e] = .ok [a, b, c, d, e] := if_pos (by simp)
@[simp] theorem sized_6 {a b c d e f : D} : Res.sized [a, b, c, d, e, f] = .ok [a, b, c, d, e, f] := if_pos (by simp)
@[simp] theorem sized_7 {a b c d e f g : D} : Res.sized [a, b, c, d, e, f, g] = .ok [a, b, c, d, e, f, g] := if_pos (by simp)
@[simp] theorem sized_8 {a b c d e f g h : D} : Res.sized [a, b, c, d, e, f, g, h] = .ok [a, b, c, d, e, f, g, h] := if_pos (by simp)
theorem sized_ok {xs : List D} (h : xs.length ≤ 100000) : Res.sized xs = .ok xs := if_pos h
end Lk
namespace Lk
open PySem PySem.Spec PyProof.Rows L2
theorem log2_lt200 {b : Int} (h : 0 < b) (h2 : b < 2 ^ 200) : b.natAbs.log2 < 9000 := by
  have : b.natAbs < 2 ^ 200 := by omega
  exact Nat.lt_trans (log2_small this (by decide)) (by decide)
theorem fdiv_small {a b : Int} (h : 0 < b) (h2 : b < 2 ^ 200) : D.fdiv (.int a) (.int b) = .ok (.int (a / b)) := fdiv_int h (log2_lt200 h h2)
theorem pow_small {a b : Int} (h : 0 ≤ b) (h2 : b ≤ 1000) (h3 : a.natAbs < 1000000000000) : D.pow (.int a) (.int b) = .ok (.int (a ^ b.toNat)) := if_pos ⟨h, h2, by omega⟩
theorem log2_lt_of_lt {a : Int} {k : Nat} (h : a.natAbs < 2 ^ k) (hk : 0 < k) : a.natAbs.log2 < k := log2_small h hk
theorem mul_small {a b : Int} (h : a.natAbs < 2 ^ 250) (h2 : b.natAbs < 2 ^ 250) : D.mul (.int a) (.int b) = .ok (.int (a * b)) :=
  mul_int' (Nat.lt_trans (Nat.add_lt_add (log2_small h (by decide)) (log2_small h2 (by decide))) (by decide))
theorem item_ints {xs : List Int} {i : Nat} (h : i < xs.length) : D.item (.lst (xs.map D.int)) (.int (i : Int)) = .ok (.int (xs.getD i 0)) := by
  rw [item_lst (by rw [List.length_map]; exact h), List.getElem_map, List.getD_eq_getElem?_getD, List.getElem?_eq_getElem h]
  rfl
theorem itemT_ints {xs : List Int} {i : Nat} (h : i < xs.length) : D.item (.tup (xs.map D.int)) (.int (i : Int)) = .ok (.int (xs.getD i 0)) := by
  rw [item_tup (by rw [List.length_map]; exact h), List.getElem_map, List.getD_eq_getElem?_getD, List.getElem?_eq_getElem h]
  rfl
theorem setR_ints {xs : List Int} {i : Nat} {v : Int} (h : i < xs.length) : setR (xs.map D.int) (.int (i : Int)) (.int v) = .ok ((xs.set i v).map D.int) := by
  rw [setR_nat (by rw [List.length_map]; exact h), List.map_set]
theorem pushR_ints {xs : List Int} {v : Int} (h : xs.length < 100000) : pushR (xs.map D.int) (.int v) = .ok ((xs ++ [v]).map D.int) := by
  rw [pushR_ok (by rw [List.length_map]; exact h), List.map_append]
  rfl
section
variable {S B T : Type}
theorem while_no {test : S → Res Bool} {body : S → Res (Out S S T)} {n : Nat} {s : S} (hn : 0 < n) (h : test s = .ok false) : (whileR test body n s : Res (Out S B T)) = .ok (.nx s) := by
  cases n with
  | zero => omega
  | succ n =>
    simp only [whileR, h, bind_ok]
    rfl
theorem while_yes {test : S → Res Bool} {body : S → Res (Out S S T)} {n : Nat} {s s' : S} (hn : 0 < n) (h : test s = .ok true) (hb : body s = .ok (.nx s')) : (whileR test body n s : Res (Out S B T)) = whileR test body (n - 1) s' := by
  cases n with
  | zero => omega
  | succ n =>
    simp only [whileR, h, bind_ok, hb, if_true]
    rfl
end
theorem while_inv {S B T γ : Type} {test : S → Res Bool} {body : S → Res (Out S S T)} {k : Out S B T → Res γ} {r : Res γ} (P : S → Prop) (μ : S → Nat) :
    ∀ (n : Nat) {s : S}, P s → μ s < n → (∀ s, P s → (test s = .ok false ∧ k (.nx s) = r) ∨ (test s = .ok true ∧ ∃ s', body s = .ok (.nx s') ∧ P s' ∧ μ s' < μ s)) → (whileR test body n s >>= k) = r
  | 0, s, _, hn, _ => by omega
  | n + 1, s, h0, hn, hs => by
    rcases hs s h0 with ⟨e, hk⟩ | ⟨e, s', eb, h1, hm⟩
    · rw [while_no (Nat.succ_pos _) e, bind_ok]
      exact hk
    · rw [while_yes (Nat.succ_pos _) e eb]
      exact while_inv P μ n h1 (by omega) hs
theorem ite_nx {S B T : Type} {b : Bool} {x y : S} : (if b = true then (.ok (.nx x) : Res (Out S B T)) else .ok (.nx y)) = .ok (.nx (if b = true then x else y)) := by cases b <;> rfl
theorem ite_int {b : Bool} {x y : Int} : (if b = true then D.int x else D.int y) = D.int (if b = true then x else y) := by cases b <;> rfl
theorem ite_and {b p : Bool} : (if b = true then (.ok p : Res Bool) else .ok false) = .ok (b && p) := by cases b <;> rfl
theorem ite_or {b p : Bool} : (if b = true then (.ok true : Res Bool) else .ok p) = .ok (b || p) := by cases b <;> rfl
theorem ite_andD {b p : Bool} : (if b = true then (.ok (.bl p) : Res D) else .ok (.bl false)) = .ok (.bl (b && p)) := by cases b <;> rfl
theorem ite_orD {b p : Bool} : (if b = true then (.ok (.bl true) : Res D) else .ok (.bl p)) = .ok (.bl (b || p)) := by cases b <;> rfl
section
variable {S B T γ : Type}
theorem loopP_at {α : Type} {step : S → D → Res (Out S S T)} {c : α → D} {xs : List α} {s : S} {k : Out S B T → Res γ} (R : Res γ → Prop) (P : Nat → S → Prop) (h0 : P 0 s)
    (hs : ∀ j (hj : j < xs.length) s, P j s → ∃ s', step s (c xs[j]) = .ok (.nx s') ∧ P (j + 1) s') (hk : ∀ s, P xs.length s → R (k (.nx s))) : R (loopR step (xs.map c) s >>= k) := by
  obtain ⟨s', e, hs'⟩ := loopR_inv (B := B) (T := T) (step := step) (xs.map c) P h0 (by
    intro j hj s hp
    rw [List.getElem_map]
    exact hs j (by simpa using hj) s hp)
  rw [e, bind_ok]
  exact hk s' (by simpa using hs')
theorem loopP_range {step : S → D → Res (Out S S T)} {n : Nat} {s : S} {k : Out S B T → Res γ} (R : Res γ → Prop) (P : Nat → S → Prop) (h0 : P 0 s)
    (hs : ∀ j, j < n → ∀ s, P j s → ∃ s', step s (.int (j : Int)) = .ok (.nx s') ∧ P (j + 1) s') (hk : ∀ s, P n s → R (k (.nx s))) : R (loopR step ((List.range n).map fun k : Nat => D.int (k : Int)) s >>= k) := by
  refine loopP_at (c := fun k : Nat => D.int (k : Int)) R P h0 (fun j hj s hp => ?_) (fun s hp => hk s (by simpa using hp))
  rw [List.getElem_range]
  exact hs j (by simpa using hj) s hp
theorem loopP {α : Type} {step : S → D → Res (Out S S T)} {c : α → D} {xs : List α} {s : S} {k : Out S B T → Res γ} (R : Res γ → Prop) (P : S → Prop) (h0 : P s)
    (hs : ∀ s, P s → ∀ x ∈ xs, ∃ s', step s (c x) = .ok (.nx s') ∧ P s') (hk : ∀ s, P s → R (k (.nx s))) : R (loopR step (xs.map c) s >>= k) :=
  loopP_at R (fun _ => P) h0 (fun j hj s hp => hs s hp _ (List.getElem_mem _)) hk
end
theorem sliceI_from {xs : List Int} {k : Nat} : D.slice (.lst (xs.map D.int)) (some (k : Int)) none = .ok (.lst ((xs.drop k).map D.int)) := by rw [slice_from, List.map_drop]
theorem sliceI_to {xs : List Int} {k : Nat} : D.slice (.lst (xs.map D.int)) none (some (k : Int)) = .ok (.lst ((xs.take k).map D.int)) := by rw [slice_to, List.map_take]
theorem lenI {xs : List Int} : D.len [.lst (xs.map D.int)] = .ok (.int (xs.length : Int)) := by rw [len_lst, List.length_map]
theorem lenIT {xs : List Int} : D.len [.tup (xs.map D.int)] = .ok (.int (xs.length : Int)) := by rw [len_tup, List.length_map]
theorem emod_nat {c : Int} {m : Nat} (h : 0 < m) : ∃ s : Nat, c % (m : Int) = (s : Int) ∧ s < m := by
  have h1 : 0 ≤ c % (m : Int) := Int.emod_nonneg _ (by omega)
  have h2 : c % (m : Int) < (m : Int) := Int.emod_lt_of_pos _ (by omega)
  exact ⟨(c % (m : Int)).toNat, by omega, by omega⟩
theorem fitI {n : Nat} {xs : List Int} : D.fit (n + 1) (.lst (xs.map D.int)) = true := fit_ints
theorem fitIT {n : Nat} {xs : List Int} : D.fit (n + 1) (.tup (xs.map D.int)) = true := fit_tup fun _ _ => fit_int
@[simp] theorem isTup_tup (xs : List D) : D.isT "tuple" (.tup xs) = .ok (.bl true) := rfl
@[simp] theorem isList_lst (xs : List D) : D.isT "list" (.lst xs) = .ok (.bl true) := rfl
end Lk
namespace Lk
open PySem PySem.Spec PyProof.Rows L2
theorem char_inj {a b : Char} (h : a.toNat = b.toNat) : a = b := by
  apply Char.ext
  exact UInt32.toNat_inj.mp h
theorem chars_inj : ∀ {a b : List Char}, a.map Char.toNat = b.map Char.toNat → a = b
  | [], [], _ => rfl
  | [], _ :: _, h => by simp at h
  | _ :: _, [], h => by simp at h
  | a :: as, b :: bs, h => by
    simp only [List.map_cons, List.cons.injEq] at h
    rw [char_inj h.1, chars_inj h.2]
theorem ofString_inj {a b : String} (h : Str.ofString a = Str.ofString b) : a = b := by
  rw [Str.ofString_eq_toList, Str.ofString_eq_toList] at h
  have h3 : a.toList.map Char.toNat = b.toList.map Char.toNat := by
    have := congrArg Str.cps h
    simpa using this
  exact String.toList_inj.mp (chars_inj h3)
@[simp] theorem ofString_beq (a b : String) : (Str.ofString a == Str.ofString b) = (a == b) := by
  by_cases h : a = b
  · rw [h]; simp
  · have n : ¬ Str.ofString a = Str.ofString b := fun e => h (ofString_inj e)
    rw [beq_eq_false_iff_ne.mpr n, beq_eq_false_iff_ne.mpr h]
@[simp] theorem ofString_eq' (a b : String) : (Str.ofString a = Str.ofString b) = (a = b) := by
  rw [eq_iff_iff]
  exact ⟨ofString_inj, fun e => by rw [e]⟩
/-! attributes of instances told in full -/
theorem attr_ins {cs : List Nat} {f : Str} {c : Nat} {fs : List (Str × D)} (h : cs.contains c = true) : D.attr cs f (.ins c fs) = Res.opt (fs.lookup f) := if_pos h
theorem setF_oi {cs : List Nat} {f : Str} {w : O} {c : Nat} {fs : List (Str × O)} (h : (cs.contains c && decide (fs.length < 900)) = true) : O.setF cs f w (.oi c fs) = .ok (.oi c (putO f w fs)) := if_pos h
@[simp] theorem toEO_val' {α : Type} (snap : List O → List O) (a : α) (os : List O) : (Res.ok (XR.val a, os) >>= toEO snap) = .ok (.va a os) := rfl
@[simp] theorem res_assoc' {α β γ : Type} (m : Res α) (f : α → Res β) (g : β → Res γ) : ((m >>= f) >>= g) = (m >>= fun x => f x >>= g) := res_assoc m f g
/-! items of short rows -/
@[simp] theorem item_t1_0 (a : D) : D.item (.tup [a]) (.int 0) = .ok a := rfl
@[simp] theorem item_l1_0 (a : D) : D.item (.lst [a]) (.int 0) = .ok a := rfl
@[simp] theorem item_t2_0 (a b : D) : D.item (.tup [a, b]) (.int 0) = .ok a := rfl
@[simp] theorem item_l2_0 (a b : D) : D.item (.lst [a, b]) (.int 0) = .ok a := rfl
@[simp] theorem item_t2_1 (a b : D) : D.item (.tup [a, b]) (.int 1) = .ok b := rfl
@[simp] theorem item_l2_1 (a b : D) : D.item (.lst [a, b]) (.int 1) = .ok b := rfl
@[simp] theorem item_t3_0 (a b c : D) : D.item (.tup [a, b, c]) (.int 0) = .ok a := rfl
@[simp] theorem item_l3_0 (a b c : D) : D.item (.lst [a, b, c]) (.int 0) = .ok a := rfl
@[simp] theorem item_t3_1 (a b c : D) : D.item (.tup [a, b, c]) (.int 1) = .ok b := rfl
@[simp] theorem item_l3_1 (a b c : D) : D.item (.lst [a, b, c]) (.int 1) = .ok b := rfl
@[simp] theorem item_t3_2 (a b c : D) : D.item (.tup [a, b, c]) (.int 2) = .ok c := rfl
@[simp] theorem item_l3_2 (a b c : D) : D.item (.lst [a, b, c]) (.int 2) = .ok c := rfl
@[simp] theorem item_t4_0 (a b c d : D) : D.item (.tup [a, b, c, d]) (.int 0) = .ok a := rfl
@[simp] theorem item_l4_0 (a b c d : D) : D.item (.lst [a, b, c, d]) (.int 0) = .ok a := rfl
@[simp] theorem item_t4_1 (a b c d : D) : D.item (.tup [a, b, c, d]) (.int 1) = .ok b := rfl
@[simp] theorem item_l4_1 (a b c d : D) : D.item (.lst [a, b, c, d]) (.int 1) = .ok b := rfl
@[simp] theorem item_t4_2 (a b c d : D) : D.item (.tup [a, b, c, d]) (.int 2) = .ok c := rfl
@[simp] theorem item_l4_2 (a b c d : D) : D.item (.lst [a, b, c, d]) (.int 2) = .ok c := rfl
@[simp] theorem item_t4_3 (a b c d : D) : D.item (.tup [a, b, c, d]) (.int 3) = .ok d := rfl
@[simp] theorem item_l4_3 (a b c d : D) : D.item (.lst [a, b, c, d]) (.int 3) = .ok d := rfl
@[simp] theorem item_t5_0 (a b c d e : D) : D.item (.tup [a, b, c, d, e]) (.int 0) = .ok a := rfl
@[simp] theorem item_l5_0 (a b c d e : D) : D.item (.lst [a, b, c, d, e]) (.int 0) = .ok a := rfl
@[simp] theorem item_t5_1 (a b c d e : D) : D.item (.tup [a, b, c, d, e]) (.int 1) = .ok b := rfl
@[simp] theorem item_l5_1 (a b c d e : D) : D.item (.lst [a, b, c, d, e]) (.int 1) = .ok b := rfl
@[simp] theorem item_t5_2 (a b c d e : D) : D.item (.tup [a, b, c, d, e]) (.int 2) = .ok c := rfl
@[simp] theorem item_l5_2 (a b c d e : D) : D.item (.lst [a, b, c, d, e]) (.int 2) = .ok c := rfl
@[simp] theorem item_t5_3 (a b c d e : D) : D.item (.tup [a, b, c, d, e]) (.int 3) = .ok d := rfl
@[simp] theorem item_l5_3 (a b c d e : D) : D.item (.lst [a, b, c, d, e]) (.int 3) = .ok d := rfl
@[simp] theorem item_t5_4 (a b c d e : D) : D.item (.tup [a, b, c, d, e]) (.int 4) = .ok e := rfl
@[simp] theorem item_l5_4 (a b c d e : D) : D.item (.lst [a, b, c, d, e]) (.int 4) = .ok e := rfl
@[simp] theorem item_t6_0 (a b c d e f : D) : D.item (.tup [a, b, c, d, e, f]) (.int 0) = .ok a := rfl
@[simp] theorem item_l6_0 (a b c d e f : D) : D.item (.lst [a, b, c, d, e, f]) (.int 0) = .ok a := rfl
@[simp] theorem item_t6_1 (a b c d e f : D) : D.item (.tup [a, b, c, d, e, f]) (.int 1) = .ok b := rfl
@[simp] theorem item_l6_1 (a b c d e f : D) : D.item (.lst [a, b, c, d, e, f]) (.int 1) = .ok b := rfl
@[simp] theorem item_t6_2 (a b c d e f : D) : D.item (.tup [a, b, c, d, e, f]) (.int 2) = .ok c := rfl
@[simp] theorem item_l6_2 (a b c d e f : D) : D.item (.lst [a, b, c, d, e, f]) (.int 2) = .ok c := rfl
@[simp] theorem item_t6_3 (a b c d e f : D) : D.item (.tup [a, b, c, d, e, f]) (.int 3) = .ok d := rfl
@[simp] theorem item_l6_3 (a b c d e f : D) : D.item (.lst [a, b, c, d, e, f]) (.int 3) = .ok d := rfl
@[simp] theorem item_t6_4 (a b c d e f : D) : D.item (.tup [a, b, c, d, e, f]) (.int 4) = .ok e := rfl
@[simp] theorem item_l6_4 (a b c d e f : D) : D.item (.lst [a, b, c, d, e, f]) (.int 4) = .ok e := rfl
@[simp] theorem item_t6_5 (a b c d e f : D) : D.item (.tup [a, b, c, d, e, f]) (.int 5) = .ok f := rfl
@[simp] theorem item_l6_5 (a b c d e f : D) : D.item (.lst [a, b, c, d, e, f]) (.int 5) = .ok f := rfl
@[simp] theorem item_t7_0 (a b c d e f g : D) : D.item (.tup [a, b, c, d, e, f, g]) (.int 0) = .ok a := rfl
@[simp] theorem item_l7_0 (a b c d e f g : D) : D.item (.lst [a, b, c, d, e, f, g]) (.int 0) = .ok a := rfl
@[simp] theorem item_t7_1 (a b c d e f g : D) : D.item (.tup [a, b, c, d, e, f, g]) (.int 1) = .ok b := rfl
@[simp] theorem item_l7_1 (a b c d e f g : D) : D.item (.lst [a, b, c, d, e, f, g]) (.int 1) = .ok b := rfl
@[simp] theorem item_t7_2 (a b c d e f g : D) : D.item (.tup [a, b, c, d, e, f, g]) (.int 2) = .ok c := rfl
@[simp] theorem item_l7_2 (a b c d e f g : D) : D.item (.lst [a, b, c, d, e, f, g]) (.int 2) = .ok c := rfl
@[simp] theorem item_t7_3 (a b c d e f g : D) : D.item (.tup [a, b, c, d, e, f, g]) (.int 3) = .ok d := rfl
@[simp] theorem item_l7_3 (a b c d e f g : D) : D.item (.lst [a, b, c, d, e, f, g]) (.int 3) = .ok d := rfl
@[simp] theorem item_t7_4 (a b c d e f g : D) : D.item (.tup [a, b, c, d, e, f, g]) (.int 4) = .ok e := rfl
@[simp] theorem item_l7_4 (a b c d e f g : D) : D.item (.lst [a, b, c, d, e, f, g]) (.int 4) = .ok e := rfl
@[simp] theorem item_t7_5 (a b c d e f g : D) : D.item (.tup [a, b, c, d, e, f, g]) (.int 5) = .ok f := rfl
@[simp] theorem item_l7_5 (a b c d e f g : D) : D.item (.lst [a, b, c, d, e, f, g]) (.int 5) = .ok f := rfl
@[simp] theorem item_t7_6 (a b c d e f g : D) : D.item (.tup [a, b, c, d, e, f, g]) (.int 6) = .ok g := rfl
@[simp] theorem item_l7_6 (a b c d e f g : D) : D.item (.lst [a, b, c, d, e, f, g]) (.int 6) = .ok g := rfl
@[simp] theorem item_t8_0 (a b c d e f g h : D) : D.item (.tup [a, b, c, d, e, f, g, h]) (.int 0) = .ok a := rfl
@[simp] theorem item_l8_0 (a b c d e f g h : D) : D.item (.lst [a, b, c, d, e, f, g, h]) (.int 0) = .ok a := rfl
@[simp] theorem item_t8_1 (a b c d e f g h : D) : D.item (.tup [a, b, c, d, e, f, g, h]) (.int 1) = .ok b := rfl
@[simp] theorem item_l8_1 (a b c d e f g h : D) : D.item (.lst [a, b, c, d, e, f, g, h]) (.int 1) = .ok b := rfl
@[simp] theorem item_t8_2 (a b c d e f g h : D) : D.item (.tup [a, b, c, d, e, f, g, h]) (.int 2) = .ok c := rfl
@[simp] theorem item_l8_2 (a b c d e f g h : D) : D.item (.lst [a, b, c, d, e, f, g, h]) (.int 2) = .ok c := rfl
@[simp] theorem item_t8_3 (a b c d e f g h : D) : D.item (.tup [a, b, c, d, e, f, g, h]) (.int 3) = .ok d := rfl
@[simp] theorem item_l8_3 (a b c d e f g h : D) : D.item (.lst [a, b, c, d, e, f, g, h]) (.int 3) = .ok d := rfl
@[simp] theorem item_t8_4 (a b c d e f g h : D) : D.item (.tup [a, b, c, d, e, f, g, h]) (.int 4) = .ok e := rfl
@[simp] theorem item_l8_4 (a b c d e f g h : D) : D.item (.lst [a, b, c, d, e, f, g, h]) (.int 4) = .ok e := rfl
@[simp] theorem item_t8_5 (a b c d e f g h : D) : D.item (.tup [a, b, c, d, e, f, g, h]) (.int 5) = .ok f := rfl
@[simp] theorem item_l8_5 (a b c d e f g h : D) : D.item (.lst [a, b, c, d, e, f, g, h]) (.int 5) = .ok f := rfl
@[simp] theorem item_t8_6 (a b c d e f g h : D) : D.item (.tup [a, b, c, d, e, f, g, h]) (.int 6) = .ok g := rfl
@[simp] theorem item_l8_6 (a b c d e f g h : D) : D.item (.lst [a, b, c, d, e, f, g, h]) (.int 6) = .ok g := rfl
@[simp] theorem item_t8_7 (a b c d e f g h : D) : D.item (.tup [a, b, c, d, e, f, g, h]) (.int 7) = .ok h := rfl
@[simp] theorem item_l8_7 (a b c d e f g h : D) : D.item (.lst [a, b, c, d, e, f, g, h]) (.int 7) = .ok h := rfl
@[simp] theorem add_int' (a b : Int) : D.add (.int a) (.int b) = .ok (.int (a + b)) := rfl
@[simp] theorem sub_int' (a b : Int) : D.sub (.int a) (.int b) = .ok (.int (a - b)) := rfl
@[simp] theorem lt_int2 (a b : Int) : D.lt (.int a) (.int b) = .ok (.bl (decide (a < b))) := rfl
@[simp] theorem le_int2 (a b : Int) : D.le (.int a) (.int b) = .ok (.bl (decide (a ≤ b))) := rfl
@[simp] theorem gt_int2 (a b : Int) : D.gt (.int a) (.int b) = .ok (.bl (decide (b < a))) := rfl
@[simp] theorem ge_int2 (a b : Int) : D.ge (.int a) (.int b) = .ok (.bl (decide (b ≤ a))) := rfl
@[simp] theorem neg_int2 (a : Int) : D.neg (.int a) = .ok (.int (-a)) := rfl
theorem add_lst {xs ys : List D} (h : xs.length + ys.length ≤ 100000) : D.add (.lst xs) (.lst ys) = .ok (.lst (xs ++ ys)) := by
  simp -implicitDefEqProofs only [D.add, D.cat]
  first | exact if_pos h | (rw [if_pos h]; rfl)
@[simp] theorem isN_non : D.isN .non .non = .ok (.bl true) := rfl
@[simp] theorem isN_int (i : Int) : D.isN (.int i) .non = .ok (.bl false) := rfl
@[simp] theorem isN_lst (i : List D) : D.isN (.lst i) .non = .ok (.bl false) := rfl
@[simp] theorem isN_tup (i : List D) : D.isN (.tup i) .non = .ok (.bl false) := rfl
@[simp] theorem isN_ins (c : Nat) (i : List (Str × D)) : D.isN (.ins c i) .non = .ok (.bl false) := rfl
@[simp] theorem notN_non : D.notN .non .non = .ok (.bl false) := rfl
@[simp] theorem notN_int (i : Int) : D.notN (.int i) .non = .ok (.bl true) := rfl
@[simp] theorem notN_lst (i : List D) : D.notN (.lst i) .non = .ok (.bl true) := rfl
@[simp] theorem notN_tup (i : List D) : D.notN (.tup i) .non = .ok (.bl true) := rfl
@[simp] theorem isStr_str (s : Str) : D.isT "str" (.str s) = .ok (.bl true) := rfl
end Lk
namespace Lw
open PySem PySem.Spec PyProof.Rows L2 Lk
def top (i : Nat) : Stmt := PySem.Challenge.pw_lockhouse_k73_no_entries_refused.main.body.getD i (.Pass ⟨0, 0, 0, 0⟩)
def mst (i j : Nat) : Stmt := match top i with
  | .ClassDef _ _ _ body .. => body.getD j (.Pass ⟨0, 0, 0, 0⟩)
  | st => st
abbrev st_made_of : Stmt := top 10
abbrev st_is_name : Stmt := top 11
abbrev st_number_of : Stmt := top 12
abbrev st_name_of : Stmt := top 15
abbrev st_pairs_of : Stmt := top 16
abbrev st_steps_of : Stmt := top 17
abbrev st_weather_of : Stmt := top 18
abbrev st_entry_of : Stmt := top 19
abbrev st_entries_of : Stmt := top 20
abbrev st__law_name : Stmt := top 22
abbrev st__law_entry : Stmt := top 23
abbrev st__law_words : Stmt := top 24
abbrev st__law_put : Stmt := top 25
abbrev st__law_bad_words : Stmt := top 26
abbrev st__law_refused : Stmt := top 27
abbrev st_law : Stmt := top 28
/-! ### the head -/
def d_made_of : He.DefD := ⟨("made_of", none), "made_of", "made_of", defArgs st_made_of, defBody st_made_of, defScope st_made_of, [], []⟩
def d_is_name : He.DefD := ⟨("is_name", none), "is_name", "is_name", defArgs st_is_name, defBody st_is_name, defScope st_is_name, [], []⟩
def d_number_of : He.DefD := ⟨("number_of", none), "number_of", "number_of", defArgs st_number_of, defBody st_number_of, defScope st_number_of, [], []⟩
def d_name_of : He.DefD := ⟨("name_of", none), "name_of", "name_of", defArgs st_name_of, defBody st_name_of, defScope st_name_of, [], []⟩
def d_pairs_of : He.DefD := ⟨("pairs_of", none), "pairs_of", "pairs_of", defArgs st_pairs_of, defBody st_pairs_of, defScope st_pairs_of, [], []⟩
def d_steps_of : He.DefD := ⟨("steps_of", none), "steps_of", "steps_of", defArgs st_steps_of, defBody st_steps_of, defScope st_steps_of, [], []⟩
def d_weather_of : He.DefD := ⟨("weather_of", none), "weather_of", "weather_of", defArgs st_weather_of, defBody st_weather_of, defScope st_weather_of, [], []⟩
def d_entry_of : He.DefD := ⟨("entry_of", none), "entry_of", "entry_of", defArgs st_entry_of, defBody st_entry_of, defScope st_entry_of, [], []⟩
def d_entries_of : He.DefD := ⟨("entries_of", none), "entries_of", "entries_of", defArgs st_entries_of, defBody st_entries_of, defScope st_entries_of, [], []⟩
def d__law_name : He.DefD := ⟨("_law_name", none), "_law_name", "_law_name", defArgs st__law_name, defBody st__law_name, defScope st__law_name, [], []⟩
def d__law_entry : He.DefD := ⟨("_law_entry", none), "_law_entry", "_law_entry", defArgs st__law_entry, defBody st__law_entry, defScope st__law_entry, [], []⟩
def d__law_words : He.DefD := ⟨("_law_words", none), "_law_words", "_law_words", defArgs st__law_words, defBody st__law_words, defScope st__law_words, [], []⟩
def d__law_put : He.DefD := ⟨("_law_put", none), "_law_put", "_law_put", defArgs st__law_put, defBody st__law_put, defScope st__law_put, [], []⟩
def d__law_bad_words : He.DefD := ⟨("_law_bad_words", none), "_law_bad_words", "_law_bad_words", defArgs st__law_bad_words, defBody st__law_bad_words, defScope st__law_bad_words, [], []⟩
def d__law_refused : He.DefD := ⟨("_law_refused", none), "_law_refused", "_law_refused", defArgs st__law_refused, defBody st__law_refused, defScope st__law_refused, [], []⟩
def d_law : He.DefD := ⟨("law", none), "law", "law", defArgs st_law, defBody st_law, defScope st_law, [], []⟩
def fn : List He.DefD := [d_made_of, d_is_name, d_number_of, d_name_of, d_pairs_of, d_steps_of, d_weather_of, d_entry_of, d_entries_of, d__law_name, d__law_entry, d__law_words, d__law_put, d__law_bad_words, d__law_refused, d_law]
def fa : List He.Fa := [.glo "made_of", .glo "is_name", .glo "number_of", .glo "name_of", .glo "pairs_of", .glo "steps_of", .glo "weather_of", .glo "entry_of", .glo "entries_of", .glo "_law_name", .glo "_law_entry", .glo "_law_words", .glo "_law_put", .glo "_law_bad_words", .glo "_law_refused", .glo "law", .free "len", .int "LONGEST" 12, .str "LETTERS" "abcdefghijklmnopqrstuvwxyz", .glo "BadRow", .exc "BadRow", .free "int", .str "FIGURES" "0123456789", .free "range", .free "tuple", .free "isinstance", .free "str", .glo "BadNumber", .exc "BadNumber", .glo "CanalError", .exc "CanalError", .glo "Torn", .exc "Torn", .glo "Unknown", .exc "Unknown", .free "ValueError", .exm "CanalError" "BadRow" false, .exm "BadRow" "BadRow" true, .exm "BadNumber" "BadRow" false, .exm "Unknown" "BadRow" false, .exm "Torn" "BadRow" false, .free "list"]
def exL (K : PySem.W.Frag) : List Bool := [tupB K "WAYS" ([Str.ofString "up", Str.ofString "down"] : List Str), excB K (He.ga K "Torn"), kitV K (.ref (He.ga K "Torn")) (.ref (He.ga K "BadNumber")) false, excB K (He.ga K "Unknown"), kitV K (.ref (He.ga K "Unknown")) (.ref (He.ga K "BadNumber")) false, excB K (He.ga K "BadNumber"), kitV K (.ref (He.ga K "BadNumber")) (.ref (He.ga K "BadNumber")) true, excB K (He.ga K "BadRow"), kitV K (.ref (He.ga K "BadRow")) (.ref (He.ga K "BadNumber")) false, excB K (He.ga K "CanalError"), kitV K (.ref (He.ga K "CanalError")) (.ref (He.ga K "BadNumber")) false, kitV K (.ref (He.ga K "Torn")) (.ref (He.ga K "CanalError")) true, kitV K (.ref (He.ga K "Unknown")) (.ref (He.ga K "CanalError")) true, kitV K (.ref (He.ga K "BadNumber")) (.ref (He.ga K "CanalError")) true, kitV K (.ref (He.ga K "BadRow")) (.ref (He.ga K "CanalError")) true, kitV K (.ref (He.ga K "CanalError")) (.ref (He.ga K "CanalError")) true, kitV K (.ref (He.ga K "Torn")) (.ref (He.ga K "Torn")) true, kitV K (.ref (He.ga K "Unknown")) (.ref (He.ga K "Torn")) false, kitV K (.ref (He.ga K "BadNumber")) (.ref (He.ga K "Torn")) false, kitV K (.ref (He.ga K "BadRow")) (.ref (He.ga K "Torn")) false, kitV K (.ref (He.ga K "CanalError")) (.ref (He.ga K "Torn")) false, kitV K (.ref (He.ga K "Torn")) (.ref (He.ga K "Unknown")) false, kitV K (.ref (He.ga K "Unknown")) (.ref (He.ga K "Unknown")) true, kitV K (.ref (He.ga K "BadNumber")) (.ref (He.ga K "Unknown")) false, kitV K (.ref (He.ga K "BadRow")) (.ref (He.ga K "Unknown")) false, kitV K (.ref (He.ga K "CanalError")) (.ref (He.ga K "Unknown")) false, kitV K (.ref (He.ga K "Torn")) (.type "ValueError") true, kitV K (.ref (He.ga K "Unknown")) (.type "ValueError") true, kitV K (.ref (He.ga K "BadNumber")) (.type "ValueError") true, kitV K (.ref (He.ga K "BadRow")) (.type "ValueError") true, kitV K (.ref (He.ga K "CanalError")) (.type "ValueError") true]
abbrev ex (K : PySem.W.Frag) : Bool := (exL K).all id
abbrev R0 : PySem.W.OpenRow := PySem.W.OpenLaw.row PySem.Challenge.rw_lockhouse_k73_no_entries_refused
abbrev hk : PySem.W.Hook := hookX 5 fa fn ex
def ob (s : PySem.W.SharedT) : He.AlD := obsXG 5 fa fn ex (HandSHeadRun.getT s)
theorem ob_eq (s : PySem.W.SharedT) : ob s = hk.obs s.abs := obsXG_eq (HandSHeadRun.getT_eq s)
def names : List PySem.Str := (["CanalError", "BadRow", "BadNumber", "Unknown", "Torn", "LETTERS", "FIGURES", "LONGEST", "made_of", "is_name", "number_of", "WAYS", "name_of", "pairs_of", "steps_of", "weather_of"] : List PySem.Str) ++ (["entry_of", "entries_of", "_law_name", "_law_entry", "_law_words", "_law_put", "_law_bad_words", "_law_refused"] : List PySem.Str)
theorem run (w : World) : HandSHeadRun.RunEq R0 (PySem.W.view R0.prog [28]) hk ob 7900 names w := by
  intro os
  kernel_rfl
def pp_BadRow : Nat → Option Bool := fun j => match j with
  | 0 => some false
  | 1 => some true
  | 2 => some false
  | 3 => some false
  | 4 => some false
  | _ => none
def te_BadNumber : Nat → Option Bool := tabB [(0, false), (1, false), (2, true), (3, false), (4, false)]
def te_CanalError : Nat → Option Bool := tabB [(0, true), (1, true), (2, true), (3, true), (4, true)]
def te_Torn : Nat → Option Bool := tabB [(0, false), (1, false), (2, false), (3, false), (4, true)]
def te_Unknown : Nat → Option Bool := tabB [(0, false), (1, false), (2, false), (3, true), (4, false)]
def te_ValueError : Nat → Option Bool := tabB [(0, true), (1, true), (2, true), (3, true), (4, true)]
abbrev ci_CanalError : Nat := 0
abbrev ci_BadRow : Nat := 1
abbrev ci_BadNumber : Nat := 2
abbrev ci_Unknown : Nat := 3
abbrev ci_Torn : Nat := 4
structure Tx (K : PySem.W.Frag) (mg : Str → Option Value) (ca : Nat → Addr) : Prop where
  n_len : mg "len" = none
  k_LONGEST : ∃ t, mg "LONGEST" = some (.int 12 t)
  k_LETTERS : ∃ t, mg "LETTERS" = some (.str (Str.ofString "abcdefghijklmnopqrstuvwxyz") t)
  e_BadRow : ExcF K mg "BadRow" (ca 1)
  n_int : mg "int" = none
  k_FIGURES : ∃ t, mg "FIGURES" = some (.str (Str.ofString "0123456789") t)
  n_range : mg "range" = none
  n_tuple : mg "tuple" = none
  k_WAYS : ∃ a, mg "WAYS" = some (.ref a) ∧ tupAt K a ([Str.ofString "up", Str.ofString "down"] : List Str) = true
  n_isinstance : mg "isinstance" = none
  n_str : mg "str" = none
  e_BadNumber : ExcF K mg "BadNumber" (ca 2)
  e_CanalError : ExcF K mg "CanalError" (ca 0)
  e_Torn : ExcF K mg "Torn" (ca 4)
  e_Unknown : ExcF K mg "Unknown" (ca 3)
  n_ValueError : mg "ValueError" = none
  x_BadRow : ∀ j b, pp_BadRow j = some b → PySem.W.exmOne K (.ref (ca j)) (.ref (ca 1)) = some b
  ie_BadNumber : ∀ j b, te_BadNumber j = some b → ExcC K (ca j) ∧ PySem.W.kitOne K (.ref (ca j)) (.ref (ca 2)) = some b
  ie_CanalError : ∀ j b, te_CanalError j = some b → ExcC K (ca j) ∧ PySem.W.kitOne K (.ref (ca j)) (.ref (ca 0)) = some b
  ie_Torn : ∀ j b, te_Torn j = some b → ExcC K (ca j) ∧ PySem.W.kitOne K (.ref (ca j)) (.ref (ca 4)) = some b
  ie_Unknown : ∀ j b, te_Unknown j = some b → ExcC K (ca j) ∧ PySem.W.kitOne K (.ref (ca j)) (.ref (ca 3)) = some b
  ie_ValueError : ∀ j b, te_ValueError j = some b → ExcC K (ca j) ∧ PySem.W.kitOne K (.ref (ca j)) (.type "ValueError") = some b
  n_list : mg "list" = none
def m_made_of (v_word v_signs : D) : Res D :=
  fin (S := Unit) (B := Empty) ((((Res.ok v_word) >>= fun x1 => D.seq x1) >>= fun xs3 => loopR (S := Unit) (B := Empty) (T := D) (fun (s2 : Unit) v_sign_4 => (((Res.ok v_sign_4) >>= fun x5 => (Res.ok v_signs) >>= fun x6 => D.notin x5 x6 >>= D.toB) >>= fun b7 => if b7 then Res.up ((Res.ok (D.bl false)) >>= fun x8 => Res.ok (Out.rt x8)) else (Res.ok (Out.nx ())))) xs3 ()) >>= Out.then_ (fun s9 => (((Res.ok (D.int 1)) >>= fun x13 => (((Res.ok v_word) >>= fun x10 => (Res.ok []) >>= fun xs11 => Res.ok (x10 :: xs11)) >>= fun xs12 => D.len xs12) >>= fun x14 => D.le x13 x14 >>= D.toB >>= fun k16 => if k16 then (Res.ok (D.int 12)) >>= fun x15 => D.le x14 x15 else Res.ok (D.bl false)) >>= fun x17 => Res.ok (Out.rt x17))))
def m_is_name (v_word : D) : Res D :=
  fin (S := Unit) (B := Empty) ((((Res.ok v_word) >>= fun x3 => ((Res.ok (D.str (Str.ofString "abcdefghijklmnopqrstuvwxyz"))) >>= fun x1 => (Res.ok []) >>= fun xs2 => Res.ok (x1 :: xs2)) >>= fun xs4 => Res.ok (x3 :: xs4)) >>= fun xs5 => F2 m_made_of xs5) >>= fun x6 => Res.ok (Out.rt x6))
def m_number_of (v_word : D) : Res D :=
  fin (S := Unit) (B := Empty) ((((((Res.ok v_word) >>= fun x3 => ((Res.ok (D.str (Str.ofString "0123456789"))) >>= fun x1 => (Res.ok []) >>= fun xs2 => Res.ok (x1 :: xs2)) >>= fun xs4 => Res.ok (x3 :: xs4)) >>= fun xs5 => F2 m_made_of xs5) >>= D.truth) >>= fun b6 => Res.ok (!b6)) >>= fun b7 => if b7 then Res.up (Res.exc 1) else (((((Res.ok v_word) >>= fun x8 => (Res.ok (D.int 0)) >>= fun x9 => D.item x8 x9) >>= fun x10 => (Res.ok (D.str (Str.ofString "0"))) >>= fun x11 => D.eq x10 x11 >>= D.toB) >>= fun b17 => if b17 then ((((Res.ok v_word) >>= fun x12 => (Res.ok []) >>= fun xs13 => Res.ok (x12 :: xs13)) >>= fun xs14 => D.len xs14) >>= fun x15 => (Res.ok (D.int 1)) >>= fun x16 => D.gt x15 x16 >>= D.toB) else Res.ok false) >>= fun b18 => if b18 then Res.up (Res.exc 1) else ((((Res.ok v_word) >>= fun x19 => (Res.ok []) >>= fun xs20 => Res.ok (x19 :: xs20)) >>= fun xs21 => D.toInt xs21) >>= fun x22 => Res.ok (Out.rt x22))))
def m_name_of (v_word : D) : Res D :=
  fin (S := Unit) (B := Empty) ((((((Res.ok v_word) >>= fun x1 => (Res.ok []) >>= fun xs2 => Res.ok (x1 :: xs2)) >>= fun xs3 => F1 m_is_name xs3) >>= D.truth) >>= fun b4 => Res.ok (!b4)) >>= fun b5 => if b5 then Res.up (Res.exc 1) else ((Res.ok v_word) >>= fun x6 => Res.ok (Out.rt x6)))
def m_pairs_of (v_words : D) : Res D :=
  fin (S := Unit) (B := Empty) ((((((Res.ok v_words) >>= fun x1 => (Res.ok []) >>= fun xs2 => Res.ok (x1 :: xs2)) >>= fun xs3 => D.len xs3) >>= fun x4 => (Res.ok (D.int 2)) >>= fun x5 => D.lt x4 x5 >>= D.toB) >>= fun b19 => if b19 then Res.ok true else (((((Res.ok v_words) >>= fun x6 => (Res.ok []) >>= fun xs7 => Res.ok (x6 :: xs7)) >>= fun xs8 => D.len xs8) >>= fun x9 => (Res.ok (D.int 16)) >>= fun x10 => D.gt x9 x10 >>= D.toB) >>= fun b18 => if b18 then Res.ok true else (((((Res.ok v_words) >>= fun x11 => (Res.ok []) >>= fun xs12 => Res.ok (x11 :: xs12)) >>= fun xs13 => D.len xs13) >>= fun x14 => (Res.ok (D.int 2)) >>= fun x15 => D.mod x14 x15) >>= fun x16 => (Res.ok (D.int 1)) >>= fun x17 => D.eq x16 x17 >>= D.toB))) >>= fun b20 => if b20 then Res.up (Res.exc 1) else ((((((Res.ok (D.int 0)) >>= fun x28 => ((((Res.ok v_words) >>= fun x21 => (Res.ok []) >>= fun xs22 => Res.ok (x21 :: xs22)) >>= fun xs23 => D.len xs23) >>= fun x26 => ((Res.ok (D.int 2)) >>= fun x24 => (Res.ok []) >>= fun xs25 => Res.ok (x24 :: xs25)) >>= fun xs27 => Res.ok (x26 :: xs27)) >>= fun xs29 => Res.ok (x28 :: xs29)) >>= fun xs30 => D.range3 xs30) >>= fun xs44 => lcSize xs44 >>= fun xs45 => compR (lcF (fun v_k_31 => (Res.ok true)) (fun v_k_31 => ((((Res.ok v_words) >>= fun x32 => (Res.ok v_k_31) >>= fun x33 => D.item x32 x33) >>= fun x40 => (((Res.ok v_words) >>= fun x36 => ((Res.ok v_k_31) >>= fun x34 => (Res.ok (D.int 1)) >>= fun x35 => D.add x34 x35) >>= fun x37 => D.item x36 x37) >>= fun x38 => (Res.ok []) >>= fun xs39 => Res.ok (x38 :: xs39)) >>= fun xs41 => Res.ok (x40 :: xs41)) >>= fun xs42 => Res.sized xs42 >>= fun xs43 => Res.ok (D.tup xs43)))) xs45) >>= fun x46 => Res.ok (D.lst x46)) >>= fun x47 => Res.ok (Out.rt x47)))
def m_steps_of (v_words : D) : Res D :=
  fin (S := Unit) (B := Empty) (((Res.ok []) >>= fun xs2 => Res.sized xs2) >>= fun v_steps_1 => ((((((Res.ok v_words) >>= fun x3 => (Res.ok []) >>= fun xs4 => Res.ok (x3 :: xs4)) >>= fun xs5 => F1 m_pairs_of xs5) >>= fun x6 => D.seq x6) >>= fun xs8 => loopR (S := List D) (B := Empty) (T := D) (fun (s7 : List D) v_pair_9 => ((((Res.ok v_pair_9) >>= fun x10 => (Res.ok (D.int 1)) >>= fun x11 => D.item x10 x11) >>= fun x12 => (Res.ok (D.tup (([Str.ofString "up", Str.ofString "down"] : List Str).map D.str))) >>= fun x13 => D.notin x12 x13 >>= D.toB) >>= fun b14 => if b14 then Res.up (Res.exc 1) else (((((((Res.ok v_pair_9) >>= fun x15 => (Res.ok (D.int 0)) >>= fun x16 => D.item x15 x16) >>= fun x17 => (Res.ok []) >>= fun xs18 => Res.ok (x17 :: xs18)) >>= fun xs19 => F1 m_name_of xs19) >>= fun x24 => (((Res.ok v_pair_9) >>= fun x20 => (Res.ok (D.int 1)) >>= fun x21 => D.item x20 x21) >>= fun x22 => (Res.ok []) >>= fun xs23 => Res.ok (x22 :: xs23)) >>= fun xs25 => Res.ok (x24 :: xs25)) >>= fun xs26 => Res.sized xs26 >>= fun xs27 => Res.ok (D.tup xs27)) >>= fun x28 => pushR s7 x28 >>= fun v_steps_29 => (Res.ok (Out.nx v_steps_29))))) xs8 v_steps_1) >>= Out.then_ (fun s30 => ((((Res.ok (D.lst s30)) >>= fun x31 => (Res.ok []) >>= fun xs32 => Res.ok (x31 :: xs32)) >>= fun xs33 => D.toTup xs33) >>= fun x34 => Res.ok (Out.rt x34)))))
def m_weather_of (v_words : D) : Res D :=
  fin (S := Unit) (B := Empty) (((((((((Res.ok v_words) >>= fun x1 => (Res.ok []) >>= fun xs2 => Res.ok (x1 :: xs2)) >>= fun xs3 => F1 m_pairs_of xs3) >>= fun x4 => D.seq x4) >>= fun xs22 => lcSize xs22 >>= fun xs23 => compX (lcF (fun v_pair_5 => (Res.ok true)) (fun v_pair_5 => ((((((Res.ok v_pair_5) >>= fun x6 => (Res.ok (D.int 0)) >>= fun x7 => D.item x6 x7) >>= fun x8 => (Res.ok []) >>= fun xs9 => Res.ok (x8 :: xs9)) >>= fun xs10 => F1 m_number_of xs10) >>= fun x18 => (((((Res.ok v_pair_5) >>= fun x11 => (Res.ok (D.int 1)) >>= fun x12 => D.item x11 x12) >>= fun x13 => (Res.ok []) >>= fun xs14 => Res.ok (x13 :: xs14)) >>= fun xs15 => F1 m_number_of xs15) >>= fun x16 => (Res.ok []) >>= fun xs17 => Res.ok (x16 :: xs17)) >>= fun xs19 => Res.ok (x18 :: xs19)) >>= fun xs20 => Res.sized xs20 >>= fun xs21 => Res.ok (D.tup xs21)))) xs23) >>= fun x24 => Res.ok (D.lst x24)) >>= fun x25 => (Res.ok []) >>= fun xs26 => Res.ok (x25 :: xs26)) >>= fun xs27 => D.toTup xs27) >>= fun x28 => Res.ok (Out.rt x28))
def m_entry_of (v_row : D) : Res D :=
  fin (S := Unit) (B := Empty) ((((Res.ok v_row) >>= fun x2 => D.txt x2 >>= fun x2 => (Res.ok (D.str (Str.ofString " "))) >>= fun x3 => D.split x2 x3) >>= fun x4 => Res.ok (D.lst x4)) >>= fun v_words_1 => (((Res.ok v_words_1) >>= fun x6 => (Res.ok (D.int 0)) >>= fun x7 => D.item x6 x7) >>= fun v_head_5 => ((((Res.ok v_head_5) >>= fun x8 => (Res.ok (D.str (Str.ofString "come"))) >>= fun x9 => D.eq x8 x9 >>= D.toB) >>= fun b15 => if b15 then ((((Res.ok v_words_1) >>= fun x10 => (Res.ok []) >>= fun xs11 => Res.ok (x10 :: xs11)) >>= fun xs12 => D.len xs12) >>= fun x13 => (Res.ok (D.int 3)) >>= fun x14 => D.gt x13 x14 >>= D.toB) else Res.ok false) >>= fun b16 => if b16 then Res.up ((((Res.ok (D.str (Str.ofString "come"))) >>= fun x39 => (((((Res.ok v_words_1) >>= fun x17 => (Res.ok (D.int 1)) >>= fun x18 => D.item x17 x18) >>= fun x19 => (Res.ok []) >>= fun xs20 => Res.ok (x19 :: xs20)) >>= fun xs21 => F1 m_name_of xs21) >>= fun x37 => (((((Res.ok v_words_1) >>= fun x22 => (Res.ok (D.int 2)) >>= fun x23 => D.item x22 x23) >>= fun x24 => (Res.ok []) >>= fun xs25 => Res.ok (x24 :: xs25)) >>= fun xs26 => F1 m_name_of xs26) >>= fun x35 => (((((Res.ok v_words_1) >>= fun x27 => ((Res.ok (D.int 3)) >>= D.toI) >>= fun l28 => (Res.ok none) >>= fun h29 => D.slice x27 l28 h29) >>= fun x30 => (Res.ok []) >>= fun xs31 => Res.ok (x30 :: xs31)) >>= fun xs32 => F1 m_steps_of xs32) >>= fun x33 => (Res.ok []) >>= fun xs34 => Res.ok (x33 :: xs34)) >>= fun xs36 => Res.ok (x35 :: xs36)) >>= fun xs38 => Res.ok (x37 :: xs38)) >>= fun xs40 => Res.ok (x39 :: xs40)) >>= fun xs41 => Res.sized xs41 >>= fun xs42 => Res.ok (D.tup xs42)) >>= fun x43 => Res.ok (Out.rt x43)) else (((Res.ok v_head_5) >>= fun x44 => (Res.ok (D.str (Str.ofString "night"))) >>= fun x45 => D.eq x44 x45 >>= D.toB) >>= fun b46 => if b46 then Res.up ((((Res.ok (D.str (Str.ofString "night"))) >>= fun x55 => (((((Res.ok v_words_1) >>= fun x47 => ((Res.ok (D.int 1)) >>= D.toI) >>= fun l48 => (Res.ok none) >>= fun h49 => D.slice x47 l48 h49) >>= fun x50 => (Res.ok []) >>= fun xs51 => Res.ok (x50 :: xs51)) >>= fun xs52 => F1 m_weather_of xs52) >>= fun x53 => (Res.ok []) >>= fun xs54 => Res.ok (x53 :: xs54)) >>= fun xs56 => Res.ok (x55 :: xs56)) >>= fun xs57 => Res.sized xs57 >>= fun xs58 => Res.ok (D.tup xs58)) >>= fun x59 => Res.ok (Out.rt x59)) else ((((Res.ok v_head_5) >>= fun x66 => (((Res.ok (D.str (Str.ofString "pass"))) >>= fun x62 => ((Res.ok (D.str (Str.ofString "let"))) >>= fun x60 => (Res.ok []) >>= fun xs61 => Res.ok (x60 :: xs61)) >>= fun xs63 => Res.ok (x62 :: xs63)) >>= fun xs64 => Res.sized xs64 >>= fun xs65 => Res.ok (D.tup xs65)) >>= fun x67 => D.isin x66 x67 >>= D.toB) >>= fun b73 => if b73 then ((((Res.ok v_words_1) >>= fun x68 => (Res.ok []) >>= fun xs69 => Res.ok (x68 :: xs69)) >>= fun xs70 => D.len xs70) >>= fun x71 => (Res.ok (D.int 2)) >>= fun x72 => D.eq x71 x72 >>= D.toB) else Res.ok false) >>= fun b74 => if b74 then Res.up ((((Res.ok v_head_5) >>= fun x82 => (((((Res.ok v_words_1) >>= fun x75 => (Res.ok (D.int 1)) >>= fun x76 => D.item x75 x76) >>= fun x77 => (Res.ok []) >>= fun xs78 => Res.ok (x77 :: xs78)) >>= fun xs79 => F1 m_name_of xs79) >>= fun x80 => (Res.ok []) >>= fun xs81 => Res.ok (x80 :: xs81)) >>= fun xs83 => Res.ok (x82 :: xs83)) >>= fun xs84 => Res.sized xs84 >>= fun xs85 => Res.ok (D.tup xs85)) >>= fun x86 => Res.ok (Out.rt x86)) else ((((Res.ok v_head_5) >>= fun x93 => (((Res.ok (D.str (Str.ofString "take"))) >>= fun x89 => ((Res.ok (D.str (Str.ofString "rain"))) >>= fun x87 => (Res.ok []) >>= fun xs88 => Res.ok (x87 :: xs88)) >>= fun xs90 => Res.ok (x89 :: xs90)) >>= fun xs91 => Res.sized xs91 >>= fun xs92 => Res.ok (D.tup xs92)) >>= fun x94 => D.isin x93 x94 >>= D.toB) >>= fun b100 => if b100 then ((((Res.ok v_words_1) >>= fun x95 => (Res.ok []) >>= fun xs96 => Res.ok (x95 :: xs96)) >>= fun xs97 => D.len xs97) >>= fun x98 => (Res.ok (D.int 3)) >>= fun x99 => D.eq x98 x99 >>= D.toB) else Res.ok false) >>= fun b101 => if b101 then Res.up ((((Res.ok v_head_5) >>= fun x116 => (((((Res.ok v_words_1) >>= fun x102 => (Res.ok (D.int 1)) >>= fun x103 => D.item x102 x103) >>= fun x104 => (Res.ok []) >>= fun xs105 => Res.ok (x104 :: xs105)) >>= fun xs106 => F1 m_name_of xs106) >>= fun x114 => (((((Res.ok v_words_1) >>= fun x107 => (Res.ok (D.int 2)) >>= fun x108 => D.item x107 x108) >>= fun x109 => (Res.ok []) >>= fun xs110 => Res.ok (x109 :: xs110)) >>= fun xs111 => F1 m_number_of xs111) >>= fun x112 => (Res.ok []) >>= fun xs113 => Res.ok (x112 :: xs113)) >>= fun xs115 => Res.ok (x114 :: xs115)) >>= fun xs117 => Res.ok (x116 :: xs117)) >>= fun xs118 => Res.sized xs118 >>= fun xs119 => Res.ok (D.tup xs119)) >>= fun x120 => Res.ok (Out.rt x120)) else (Res.exc 1)))))))
def m_entries_of (v_text : D) : Res D :=
  fin (S := Unit) (B := Empty) (((((((Res.ok v_text) >>= fun x1 => D.txt x1 >>= fun x1 => (Res.ok (D.str (Str.ofString "\n"))) >>= fun x2 => D.split x1 x2) >>= fun x3 => Res.ok (D.lst x3)) >>= fun x4 => D.seq x4) >>= fun xs11 => lcSize xs11 >>= fun xs12 => compX (lcF (fun v_row_5 => ((Res.ok v_row_5) >>= fun x6 => (Res.ok (D.str (Str.ofString ""))) >>= fun x7 => D.ne x6 x7 >>= D.toB)) (fun v_row_5 => (((Res.ok v_row_5) >>= fun x8 => (Res.ok []) >>= fun xs9 => Res.ok (x8 :: xs9)) >>= fun xs10 => F1 m_entry_of xs10))) xs12) >>= fun x13 => Res.ok (D.lst x13)) >>= fun x14 => Res.ok (Out.rt x14))
def m__law_name (v_seed : D) : Res D :=
  fin (S := Unit) (B := Empty) ((Res.ok (D.str (Str.ofString ""))) >>= fun v_name_1 => ((((((Res.ok (D.int 1)) >>= fun x4 => ((Res.ok v_seed) >>= fun x2 => (Res.ok (D.int 12)) >>= fun x3 => D.mod x2 x3) >>= fun x5 => D.add x4 x5) >>= fun x6 => (Res.ok []) >>= fun xs7 => Res.ok (x6 :: xs7)) >>= fun xs8 => D.range1 xs8) >>= fun xs10 => loopR (S := D × D) (B := Empty) (T := D) (fun (s9 : D × D) v_k_11 => (((((Res.ok s9.1) >>= fun x13 => (Res.ok (D.int 1)) >>= fun x14 => D.add x13 x14) >>= fun x15 => (Res.ok (D.int 48271)) >>= fun x16 => D.mul x15 x16) >>= fun x17 => (Res.ok (D.int 2147483647)) >>= fun x18 => D.mod x17 x18) >>= fun v_seed_12 => (((Res.ok s9.2) >>= fun x24 => ((Res.ok (D.str (Str.ofString "abcdefghijklmnopqrstuvwxyz"))) >>= fun x22 => ((Res.ok v_seed_12) >>= fun x20 => (Res.ok (D.int 26)) >>= fun x21 => D.mod x20 x21) >>= fun x23 => D.item x22 x23) >>= fun x25 => D.add x24 x25) >>= fun v_name_19 => (Res.ok (Out.nx (v_seed_12, v_name_19)))))) xs10 (v_seed, v_name_1)) >>= Out.then_ (fun s26 => ((Res.ok s26.2) >>= fun x27 => Res.ok (Out.rt x27)))))
def m__law_entry (v_cell : D) : Res D :=
  fin (S := Unit) (B := Empty) ((((Res.ok v_cell) >>= fun x2 => (Res.ok (D.int 6)) >>= fun x3 => D.fdiv x2 x3) >>= fun x4 => (Res.ok (D.int 2147483629)) >>= fun x5 => D.mod x4 x5) >>= fun v_seed_1 => ((((Res.ok v_cell) >>= fun x7 => (Res.ok (D.int 42)) >>= fun x8 => D.fdiv x7 x8) >>= fun x9 => (Res.ok (D.int 1000000000000)) >>= fun x10 => D.mod x9 x10) >>= fun v_amount_6 => ((((((Res.ok v_seed_1) >>= fun x11 => (Res.ok (D.int 7)) >>= fun x12 => D.mod x11 x12) >>= fun x13 => (Res.ok (D.int 1)) >>= fun x14 => D.eq x13 x14 >>= D.toB) >>= fun b15 => if b15 then ((Res.ok (D.int 999999999999)) >>= fun v_amount_16 => (Res.ok (Out.nx v_amount_16))) else (Res.ok (Out.nx v_amount_6))) : Res (Out (D) (Empty) (D))) >>= Out.then_ (fun s17 => ((((Res.ok v_cell) >>= fun x18 => (Res.ok (D.int 6)) >>= fun x19 => D.mod x18 x19) >>= fun x20 => (Res.ok (D.int 0)) >>= fun x21 => D.eq x20 x21 >>= D.toB) >>= fun b22 => if b22 then Res.up (((Res.ok []) >>= fun xs24 => Res.sized xs24) >>= fun v_steps_23 => ((((((Res.ok (D.int 1)) >>= fun x27 => ((Res.ok v_seed_1) >>= fun x25 => (Res.ok (D.int 8)) >>= fun x26 => D.mod x25 x26) >>= fun x28 => D.add x27 x28) >>= fun x29 => (Res.ok []) >>= fun xs30 => Res.ok (x29 :: xs30)) >>= fun xs31 => D.range1 xs31) >>= fun xs33 => loopR (S := D × List D) (B := Empty) (T := D) (fun (s32 : D × List D) v_k_34 => (((((Res.ok s32.1) >>= fun x36 => (Res.ok (D.int 1)) >>= fun x37 => D.add x36 x37) >>= fun x38 => (Res.ok (D.int 69621)) >>= fun x39 => D.mul x38 x39) >>= fun x40 => (Res.ok (D.int 2147483647)) >>= fun x41 => D.mod x40 x41) >>= fun v_seed_35 => ((((((Res.ok v_seed_35) >>= fun x42 => (Res.ok []) >>= fun xs43 => Res.ok (x42 :: xs43)) >>= fun xs44 => F1 m__law_name xs44) >>= fun x59 => ((((((Res.ok (D.str (Str.ofString "up"))) >>= fun x47 => ((Res.ok (D.str (Str.ofString "down"))) >>= fun x45 => (Res.ok []) >>= fun xs46 => Res.ok (x45 :: xs46)) >>= fun xs48 => Res.ok (x47 :: xs48)) >>= fun xs49 => Res.sized xs49) >>= fun x50 => Res.ok (D.lst x50)) >>= fun x55 => (((Res.ok v_seed_35) >>= fun x51 => (Res.ok (D.int 12)) >>= fun x52 => D.fdiv x51 x52) >>= fun x53 => (Res.ok (D.int 2)) >>= fun x54 => D.mod x53 x54) >>= fun x56 => D.item x55 x56) >>= fun x57 => (Res.ok []) >>= fun xs58 => Res.ok (x57 :: xs58)) >>= fun xs60 => Res.ok (x59 :: xs60)) >>= fun xs61 => Res.sized xs61 >>= fun xs62 => Res.ok (D.tup xs62)) >>= fun x63 => pushR s32.2 x63 >>= fun v_steps_64 => (Res.ok (Out.nx (v_seed_35, v_steps_64)))))) xs33 (v_seed_1, v_steps_23)) >>= Out.then_ (fun s65 => ((((Res.ok (D.str (Str.ofString "come"))) >>= fun x89 => ((((((Res.ok v_cell) >>= fun x66 => (Res.ok (D.int 48)) >>= fun x67 => D.fdiv x66 x67) >>= fun x68 => (Res.ok (D.int 2147483629)) >>= fun x69 => D.mod x68 x69) >>= fun x70 => (Res.ok []) >>= fun xs71 => Res.ok (x70 :: xs71)) >>= fun xs72 => F1 m__law_name xs72) >>= fun x87 => ((((((Res.ok v_cell) >>= fun x73 => (Res.ok (D.int 96)) >>= fun x74 => D.fdiv x73 x74) >>= fun x75 => (Res.ok (D.int 1000003)) >>= fun x76 => D.mod x75 x76) >>= fun x77 => (Res.ok []) >>= fun xs78 => Res.ok (x77 :: xs78)) >>= fun xs79 => F1 m__law_name xs79) >>= fun x85 => ((((Res.ok (D.lst s65.2)) >>= fun x80 => (Res.ok []) >>= fun xs81 => Res.ok (x80 :: xs81)) >>= fun xs82 => D.toTup xs82) >>= fun x83 => (Res.ok []) >>= fun xs84 => Res.ok (x83 :: xs84)) >>= fun xs86 => Res.ok (x85 :: xs86)) >>= fun xs88 => Res.ok (x87 :: xs88)) >>= fun xs90 => Res.ok (x89 :: xs90)) >>= fun xs91 => Res.sized xs91 >>= fun xs92 => Res.ok (D.tup xs92)) >>= fun x93 => Res.ok (Out.rt x93))))) else ((((Res.ok v_cell) >>= fun x94 => (Res.ok (D.int 6)) >>= fun x95 => D.mod x94 x95) >>= fun x96 => (Res.ok (D.int 3)) >>= fun x97 => D.eq x96 x97 >>= D.toB) >>= fun b98 => if b98 then Res.up ((((Res.ok v_cell) >>= fun x100 => (Res.ok (D.int 48)) >>= fun x101 => D.fdiv x100 x101) >>= fun x104 => ((Res.ok (D.int 10)) >>= fun x102 => (Res.ok (D.int 24)) >>= fun x103 => D.pow x102 x103) >>= fun x105 => D.mod x104 x105) >>= fun v_rest_99 => (((Res.ok []) >>= fun xs107 => Res.sized xs107) >>= fun v_weather_106 => ((((((Res.ok (D.int 1)) >>= fun x110 => ((Res.ok v_seed_1) >>= fun x108 => (Res.ok (D.int 8)) >>= fun x109 => D.mod x108 x109) >>= fun x111 => D.add x110 x111) >>= fun x112 => (Res.ok []) >>= fun xs113 => Res.ok (x112 :: xs113)) >>= fun xs114 => D.range1 xs114) >>= fun xs116 => loopR (S := List D × D) (B := Empty) (T := D) (fun (s115 : List D × D) v_k_117 => (((((Res.ok s115.2) >>= fun x120 => ((Res.ok (D.int 10)) >>= fun x118 => (Res.ok (D.int 12)) >>= fun x119 => D.pow x118 x119) >>= fun x121 => D.mod x120 x121) >>= fun x130 => ((((Res.ok s115.2) >>= fun x122 => (Res.ok (D.int 1000)) >>= fun x123 => D.fdiv x122 x123) >>= fun x126 => ((Res.ok (D.int 10)) >>= fun x124 => (Res.ok (D.int 12)) >>= fun x125 => D.pow x124 x125) >>= fun x127 => D.mod x126 x127) >>= fun x128 => (Res.ok []) >>= fun xs129 => Res.ok (x128 :: xs129)) >>= fun xs131 => Res.ok (x130 :: xs131)) >>= fun xs132 => Res.sized xs132 >>= fun xs133 => Res.ok (D.tup xs133)) >>= fun x134 => pushR s115.1 x134 >>= fun v_weather_135 => ((((Res.ok s115.2) >>= fun x137 => (Res.ok (D.int 100000)) >>= fun x138 => D.fdiv x137 x138) >>= fun x143 => (((Res.ok v_k_117) >>= fun x139 => (Res.ok (D.int 1)) >>= fun x140 => D.add x139 x140) >>= fun x141 => (Res.ok s17) >>= fun x142 => D.mul x141 x142) >>= fun x144 => D.add x143 x144) >>= fun v_rest_136 => (Res.ok (Out.nx (v_weather_135, v_rest_136)))))) xs116 (v_weather_106, v_rest_99)) >>= Out.then_ (fun s145 => ((((Res.ok (D.str (Str.ofString "night"))) >>= fun x151 => ((((Res.ok (D.lst s145.1)) >>= fun x146 => (Res.ok []) >>= fun xs147 => Res.ok (x146 :: xs147)) >>= fun xs148 => D.toTup xs148) >>= fun x149 => (Res.ok []) >>= fun xs150 => Res.ok (x149 :: xs150)) >>= fun xs152 => Res.ok (x151 :: xs152)) >>= fun xs153 => Res.sized xs153 >>= fun xs154 => Res.ok (D.tup xs154)) >>= fun x155 => Res.ok (Out.rt x155)))))) else ((((Res.ok v_cell) >>= fun x156 => (Res.ok (D.int 6)) >>= fun x157 => D.mod x156 x157) >>= fun x158 => (Res.ok (D.int 3)) >>= fun x159 => D.lt x158 x159 >>= D.toB) >>= fun b160 => if b160 then Res.up ((((((((Res.ok (D.str (Str.ofString ""))) >>= fun x165 => ((Res.ok (D.str (Str.ofString "pass"))) >>= fun x163 => ((Res.ok (D.str (Str.ofString "let"))) >>= fun x161 => (Res.ok []) >>= fun xs162 => Res.ok (x161 :: xs162)) >>= fun xs164 => Res.ok (x163 :: xs164)) >>= fun xs166 => Res.ok (x165 :: xs166)) >>= fun xs167 => Res.sized xs167) >>= fun x168 => Res.ok (D.lst x168)) >>= fun x171 => ((Res.ok v_cell) >>= fun x169 => (Res.ok (D.int 6)) >>= fun x170 => D.mod x169 x170) >>= fun x172 => D.item x171 x172) >>= fun x178 => ((((Res.ok v_seed_1) >>= fun x173 => (Res.ok []) >>= fun xs174 => Res.ok (x173 :: xs174)) >>= fun xs175 => F1 m__law_name xs175) >>= fun x176 => (Res.ok []) >>= fun xs177 => Res.ok (x176 :: xs177)) >>= fun xs179 => Res.ok (x178 :: xs179)) >>= fun xs180 => Res.sized xs180 >>= fun xs181 => Res.ok (D.tup xs181)) >>= fun x182 => Res.ok (Out.rt x182)) else ((((((((Res.ok (D.str (Str.ofString "take"))) >>= fun x185 => ((Res.ok (D.str (Str.ofString "rain"))) >>= fun x183 => (Res.ok []) >>= fun xs184 => Res.ok (x183 :: xs184)) >>= fun xs186 => Res.ok (x185 :: xs186)) >>= fun xs187 => Res.sized xs187) >>= fun x188 => Res.ok (D.lst x188)) >>= fun x193 => (((Res.ok v_cell) >>= fun x189 => (Res.ok (D.int 6)) >>= fun x190 => D.mod x189 x190) >>= fun x191 => (Res.ok (D.int 4)) >>= fun x192 => D.sub x191 x192) >>= fun x194 => D.item x193 x194) >>= fun x206 => ((((((Res.ok v_cell) >>= fun x195 => (Res.ok (D.int 7)) >>= fun x196 => D.fdiv x195 x196) >>= fun x197 => (Res.ok (D.int 2147483629)) >>= fun x198 => D.mod x197 x198) >>= fun x199 => (Res.ok []) >>= fun xs200 => Res.ok (x199 :: xs200)) >>= fun xs201 => F1 m__law_name xs201) >>= fun x204 => ((Res.ok s17) >>= fun x202 => (Res.ok []) >>= fun xs203 => Res.ok (x202 :: xs203)) >>= fun xs205 => Res.ok (x204 :: xs205)) >>= fun xs207 => Res.ok (x206 :: xs207)) >>= fun xs208 => Res.sized xs208 >>= fun xs209 => Res.ok (D.tup xs209)) >>= fun x210 => Res.ok (Out.rt x210)))))))))
def m__law_words (v_entry : D) : Res D :=
  fin (S := Unit) (B := Empty) (((Res.ok []) >>= fun xs2 => Res.sized xs2) >>= fun v_words_1 => ((((Res.ok v_entry) >>= fun x3 => D.seq x3) >>= fun xs5 => loopR (S := List D) (B := Empty) (T := D) (fun (s4 : List D) v_part_6 => ((((Res.ok v_part_6) >>= fun x7 => D.isT "tuple" x7) >>= D.truth) >>= fun b8 => if b8 then ((((Res.ok v_part_6) >>= fun x9 => D.seq x9) >>= fun xs11 => loopR (S := List D) (B := (List D)) (T := D) (fun (s10 : List D) v_pair_12 => (((((Res.ok v_pair_12) >>= fun x13 => (Res.ok (D.int 0)) >>= fun x14 => D.item x13 x14) >>= fun x15 => (Res.ok []) >>= fun xs16 => Res.ok (x15 :: xs16)) >>= fun xs17 => D.toStrA xs17) >>= fun x18 => pushR s10 x18 >>= fun v_words_19 => (((((Res.ok v_pair_12) >>= fun x20 => (Res.ok (D.int 1)) >>= fun x21 => D.item x20 x21) >>= fun x22 => (Res.ok []) >>= fun xs23 => Res.ok (x22 :: xs23)) >>= fun xs24 => D.toStrA xs24) >>= fun x25 => pushR v_words_19 x25 >>= fun v_words_26 => (Res.ok (Out.nx v_words_26))))) xs11 s4) >>= Out.then_ (fun s27 => (Res.ok (Out.nx s27)))) else ((((Res.ok v_part_6) >>= fun x28 => (Res.ok []) >>= fun xs29 => Res.ok (x28 :: xs29)) >>= fun xs30 => D.toStrA xs30) >>= fun x31 => pushR s4 x31 >>= fun v_words_32 => (Res.ok (Out.nx v_words_32))))) xs5 v_words_1) >>= Out.then_ (fun s33 => ((Res.ok (D.lst s33)) >>= fun x34 => Res.ok (Out.rt x34)))))
def m__law_put (v_words v_at v_word : D) : Res D :=
  fin (S := Unit) (B := Empty) (((((Res.ok v_words) >>= fun x1 => (Res.ok none) >>= fun l2 => ((Res.ok v_at) >>= D.toI) >>= fun h3 => D.slice x1 l2 h3) >>= fun x8 => ((((Res.ok v_word) >>= fun x4 => (Res.ok []) >>= fun xs5 => Res.ok (x4 :: xs5)) >>= fun xs6 => Res.sized xs6) >>= fun x7 => Res.ok (D.lst x7)) >>= fun x9 => D.add x8 x9) >>= fun x15 => ((Res.ok v_words) >>= fun x12 => (((Res.ok v_at) >>= fun x10 => (Res.ok (D.int 1)) >>= fun x11 => D.add x10 x11) >>= D.toI) >>= fun l13 => (Res.ok none) >>= fun h14 => D.slice x12 l13 h14) >>= fun x16 => D.add x15 x16) >>= fun x17 => Res.ok (Out.rt x17))
def m__law_bad_words (v_words v_way v_at : D) : Res D :=
  fin (S := Unit) (B := Empty) (((Res.ok v_words) >>= fun x2 => (Res.ok v_at) >>= fun x3 => D.item x2 x3) >>= fun v_word_1 => (((Res.ok v_way) >>= fun x4 => (Res.ok (D.int 0)) >>= fun x5 => D.eq x4 x5 >>= D.toB) >>= fun b6 => if b6 then Res.up (((Res.ok v_words) >>= fun x11 => ((((Res.ok (D.str (Str.ofString "a"))) >>= fun x7 => (Res.ok []) >>= fun xs8 => Res.ok (x7 :: xs8)) >>= fun xs9 => Res.sized xs9) >>= fun x10 => Res.ok (D.lst x10)) >>= fun x12 => D.add x11 x12) >>= fun x13 => Res.ok (Out.rt x13)) else (((Res.ok v_way) >>= fun x14 => (Res.ok (D.int 1)) >>= fun x15 => D.eq x14 x15 >>= D.toB) >>= fun b16 => if b16 then Res.up (((Res.ok v_words) >>= fun x18 => (Res.ok none) >>= fun l19 => (((Res.ok (D.int 1)) >>= fun x17 => D.neg x17) >>= D.toI) >>= fun h20 => D.slice x18 l19 h20) >>= fun x21 => Res.ok (Out.rt x21)) else (((Res.ok v_way) >>= fun x22 => (Res.ok (D.int 2)) >>= fun x23 => D.eq x22 x23 >>= D.toB) >>= fun b24 => if b24 then Res.up (((((Res.ok v_words) >>= fun x27 => (Res.ok none) >>= fun l28 => (((Res.ok v_at) >>= fun x25 => (Res.ok (D.int 1)) >>= fun x26 => D.sub x25 x26) >>= D.toI) >>= fun h29 => D.slice x27 l28 h29) >>= fun x34 => ((((Res.ok (D.str (Str.ofString ""))) >>= fun x30 => (Res.ok []) >>= fun xs31 => Res.ok (x30 :: xs31)) >>= fun xs32 => Res.sized xs32) >>= fun x33 => Res.ok (D.lst x33)) >>= fun x35 => D.add x34 x35) >>= fun x41 => ((Res.ok v_words) >>= fun x38 => (((Res.ok v_at) >>= fun x36 => (Res.ok (D.int 1)) >>= fun x37 => D.sub x36 x37) >>= D.toI) >>= fun l39 => (Res.ok none) >>= fun h40 => D.slice x38 l39 h40) >>= fun x42 => D.add x41 x42) >>= fun x43 => Res.ok (Out.rt x43)) else (((Res.ok v_way) >>= fun x44 => (Res.ok (D.int 3)) >>= fun x45 => D.eq x44 x45 >>= D.toB) >>= fun b46 => if b46 then Res.up ((((((((Res.ok v_words) >>= fun x47 => (Res.ok (D.int 0)) >>= fun x48 => D.item x47 x48) >>= fun x49 => D.upper x49) >>= fun x50 => (Res.ok []) >>= fun xs51 => Res.ok (x50 :: xs51)) >>= fun xs52 => Res.sized xs52) >>= fun x53 => Res.ok (D.lst x53)) >>= fun x57 => ((Res.ok v_words) >>= fun x54 => ((Res.ok (D.int 1)) >>= D.toI) >>= fun l55 => (Res.ok none) >>= fun h56 => D.slice x54 l55 h56) >>= fun x58 => D.add x57 x58) >>= fun x59 => Res.ok (Out.rt x59)) else (((Res.ok v_way) >>= fun x60 => (Res.ok (D.int 4)) >>= fun x61 => D.eq x60 x61 >>= D.toB) >>= fun b62 => if b62 then Res.up ((((((((Res.ok v_words) >>= fun x63 => (Res.ok (D.int 0)) >>= fun x64 => D.item x63 x64) >>= fun x65 => (Res.ok (D.str (Str.ofString "s"))) >>= fun x66 => D.add x65 x66) >>= fun x67 => (Res.ok []) >>= fun xs68 => Res.ok (x67 :: xs68)) >>= fun xs69 => Res.sized xs69) >>= fun x70 => Res.ok (D.lst x70)) >>= fun x74 => ((Res.ok v_words) >>= fun x71 => ((Res.ok (D.int 1)) >>= D.toI) >>= fun l72 => (Res.ok none) >>= fun h73 => D.slice x71 l72 h73) >>= fun x75 => D.add x74 x75) >>= fun x76 => Res.ok (Out.rt x76)) else (((Res.ok v_way) >>= fun x77 => (Res.ok (D.int 11)) >>= fun x78 => D.lt x77 x78 >>= D.toB) >>= fun b79 => if b79 then Res.up ((((((Res.ok v_word_1) >>= fun x81 => (Res.ok (D.str (Str.ofString "A"))) >>= fun x82 => D.add x81 x82) >>= fun x111 => ((Res.ok (D.str (Str.ofString ""))) >>= fun x109 => (((Res.ok (D.str (Str.ofString "0"))) >>= fun x83 => (Res.ok v_word_1) >>= fun x84 => D.add x83 x84) >>= fun x107 => (((Res.ok v_word_1) >>= fun x85 => (Res.ok (D.str (Str.ofString "aaaaaaaaaaaa"))) >>= fun x86 => D.add x85 x86) >>= fun x105 => (((Res.ok v_word_1) >>= fun x87 => (Res.ok (D.str (Str.ofString "000000000000"))) >>= fun x88 => D.add x87 x88) >>= fun x103 => ((((((Res.ok (D.str (Str.ofString "1_0"))) >>= fun x93 => ((Res.ok (D.str (Str.ofString "-1"))) >>= fun x91 => ((Res.ok (D.str (Str.ofString "+1"))) >>= fun x89 => (Res.ok []) >>= fun xs90 => Res.ok (x89 :: xs90)) >>= fun xs92 => Res.ok (x91 :: xs92)) >>= fun xs94 => Res.ok (x93 :: xs94)) >>= fun xs95 => Res.sized xs95) >>= fun x96 => Res.ok (D.lst x96)) >>= fun x99 => ((Res.ok v_at) >>= fun x97 => (Res.ok (D.int 3)) >>= fun x98 => D.mod x97 x98) >>= fun x100 => D.item x99 x100) >>= fun x101 => (Res.ok []) >>= fun xs102 => Res.ok (x101 :: xs102)) >>= fun xs104 => Res.ok (x103 :: xs104)) >>= fun xs106 => Res.ok (x105 :: xs106)) >>= fun xs108 => Res.ok (x107 :: xs108)) >>= fun xs110 => Res.ok (x109 :: xs110)) >>= fun xs112 => Res.ok (x111 :: xs112)) >>= fun xs113 => Res.sized xs113) >>= fun x114 => Res.ok (D.lst x114)) >>= fun v_menu_80 => ((((Res.ok v_words) >>= fun x123 => ((Res.ok v_at) >>= fun x121 => (((Res.ok v_menu_80) >>= fun x117 => ((Res.ok v_way) >>= fun x115 => (Res.ok (D.int 5)) >>= fun x116 => D.sub x115 x116) >>= fun x118 => D.item x117 x118) >>= fun x119 => (Res.ok []) >>= fun xs120 => Res.ok (x119 :: xs120)) >>= fun xs122 => Res.ok (x121 :: xs122)) >>= fun xs124 => Res.ok (x123 :: xs124)) >>= fun xs125 => F3 m__law_put xs125) >>= fun x126 => Res.ok (Out.rt x126))) else (((Res.ok v_way) >>= fun x127 => (Res.ok (D.int 11)) >>= fun x128 => D.eq x127 x128 >>= D.toB) >>= fun b129 => if b129 then Res.up ((((Res.ok (D.str (Str.ofString "a"))) >>= fun x133 => ((Res.ok (D.str (Str.ofString "up"))) >>= fun x131 => (Res.ok []) >>= fun xs132 => Res.ok (x131 :: xs132)) >>= fun xs134 => Res.ok (x133 :: xs134)) >>= fun xs135 => Res.sized xs135) >>= fun v_pair_130 => ((((((Res.ok v_words) >>= fun x136 => (Res.ok (D.int 0)) >>= fun x137 => D.item x136 x137) >>= fun x138 => (Res.ok (D.str (Str.ofString "night"))) >>= fun x139 => D.eq x138 x139 >>= D.toB) >>= fun b140 => if b140 then ((((Res.ok (D.str (Str.ofString "1"))) >>= fun x144 => ((Res.ok (D.str (Str.ofString "20"))) >>= fun x142 => (Res.ok []) >>= fun xs143 => Res.ok (x142 :: xs143)) >>= fun xs145 => Res.ok (x144 :: xs145)) >>= fun xs146 => Res.sized xs146) >>= fun v_pair_141 => (Res.ok (Out.nx v_pair_141))) else (Res.ok (Out.nx v_pair_130))) : Res (Out (List D) (Empty) (D))) >>= Out.then_ (fun s147 => ((((Res.ok (D.int 3)) >>= fun x151 => ((Res.ok (D.int 1)) >>= fun x149 => (Res.ok []) >>= fun xs150 => Res.ok (x149 :: xs150)) >>= fun xs152 => Res.ok (x151 :: xs152)) >>= fun xs153 => Res.ok (D.dic (List.zip [Str.ofString "come", Str.ofString "night"] xs153))) >>= fun v_many_148 => ((((Res.ok v_words) >>= fun x159 => (Res.ok none) >>= fun l160 => (((Res.ok v_many_148) >>= fun x156 => D.dicC x156 >>= fun x156 => ((Res.ok v_words) >>= fun x154 => (Res.ok (D.int 0)) >>= fun x155 => D.item x154 x155) >>= fun x157 => (Res.ok (D.int 1)) >>= fun x158 => D.getO x156 x157 x158) >>= D.toI) >>= fun h161 => D.slice x159 l160 h161) >>= fun x163 => ((D.rep s147 (D.int 9)) >>= fun x162 => Res.ok (D.lst x162)) >>= fun x164 => D.add x163 x164) >>= fun x165 => Res.ok (Out.rt x165)))))) else (((Res.ok v_way) >>= fun x166 => (Res.ok (D.int 12)) >>= fun x167 => D.eq x166 x167 >>= D.toB) >>= fun b168 => if b168 then Res.up ((((Res.ok (D.int 3)) >>= fun x172 => ((Res.ok (D.int 1)) >>= fun x170 => (Res.ok []) >>= fun xs171 => Res.ok (x170 :: xs171)) >>= fun xs173 => Res.ok (x172 :: xs173)) >>= fun xs174 => Res.ok (D.dic (List.zip [Str.ofString "come", Str.ofString "night"] xs174))) >>= fun v_many_169 => (((Res.ok v_words) >>= fun x180 => (Res.ok none) >>= fun l181 => (((Res.ok v_many_169) >>= fun x177 => D.dicC x177 >>= fun x177 => ((Res.ok v_words) >>= fun x175 => (Res.ok (D.int 0)) >>= fun x176 => D.item x175 x176) >>= fun x178 => (Res.ok (D.int 1)) >>= fun x179 => D.getO x177 x178 x179) >>= D.toI) >>= fun h182 => D.slice x180 l181 h182) >>= fun x183 => Res.ok (Out.rt x183))) else (((Res.ok v_way) >>= fun x184 => (Res.ok (D.int 13)) >>= fun x185 => D.eq x184 x185 >>= D.toB) >>= fun b186 => if b186 then Res.up ((((((Res.ok (D.str (Str.ofString "\t"))) >>= fun x187 => D.txt x187 >>= fun x187 => (Res.ok v_words) >>= fun x188 => D.join x187 x188) >>= fun x189 => (Res.ok []) >>= fun xs190 => Res.ok (x189 :: xs190)) >>= fun xs191 => Res.sized xs191) >>= fun x192 => Res.ok (D.lst x192)) >>= fun x193 => Res.ok (Out.rt x193)) else (((Res.ok v_way) >>= fun x194 => (Res.ok (D.int 14)) >>= fun x195 => D.gt x194 x195 >>= D.toB) >>= fun b196 => if b196 then Res.up ((((((Res.ok (D.str (Str.ofString ""))) >>= fun x197 => (Res.ok []) >>= fun xs198 => Res.ok (x197 :: xs198)) >>= fun xs199 => Res.sized xs199) >>= fun xs202 => ((Res.ok v_way) >>= fun x200 => (Res.ok (D.int 13)) >>= fun x201 => D.sub x200 x201) >>= fun x203 => D.rep xs202 x203) >>= fun x204 => Res.ok (D.lst x204)) >>= fun x205 => Res.ok (Out.rt x205)) else (((Res.ok v_words) >>= fun x210 => ((((Res.ok (D.str (Str.ofString ""))) >>= fun x206 => (Res.ok []) >>= fun xs207 => Res.ok (x206 :: xs207)) >>= fun xs208 => Res.sized xs208) >>= fun x209 => Res.ok (D.lst x209)) >>= fun x211 => D.add x210 x211) >>= fun x212 => Res.ok (Out.rt x212)))))))))))))
def m__law_refused (v_row v_many : D) : Res D :=
  fin (S := Unit) (B := Empty) (((tryR pp_BadRow (((Res.ok v_many) >>= D.truth) >>= fun b2 => if b2 then ((((Res.ok v_row) >>= fun x3 => (Res.ok []) >>= fun xs4 => Res.ok (x3 :: xs4)) >>= fun xs5 => F1 m_entries_of xs5) >>= fun _ => (Res.ok (Out.nx ()))) else ((((Res.ok v_row) >>= fun x6 => (Res.ok []) >>= fun xs7 => Res.ok (x6 :: xs7)) >>= fun xs8 => F1 m_entry_of xs8) >>= fun _ => (Res.ok (Out.nx ())))) (fun j1 => ((((D.isE te_Torn j1) >>= D.truth) >>= fun b10 => if b10 then Res.ok true else (((D.isE te_Unknown j1) >>= D.truth) >>= fun b9 => if b9 then Res.ok true else ((D.isE te_BadNumber j1) >>= D.truth))) >>= fun b11 => if b11 then Res.up ((Res.ok (D.bl false)) >>= fun x12 => Res.ok (Out.rt x12)) else (((D.isE te_CanalError j1) >>= fun x13 => D.toB x13 >>= fun k14 => if k14 then (D.isE te_ValueError j1) else Res.ok (D.bl false)) >>= fun x15 => Res.ok (Out.rt x15)))) (fun j1 _ => ((((D.isE te_Torn j1) >>= D.truth) >>= fun b10 => if b10 then Res.ok true else (((D.isE te_Unknown j1) >>= D.truth) >>= fun b9 => if b9 then Res.ok true else ((D.isE te_BadNumber j1) >>= D.truth))) >>= fun b11 => if b11 then Res.up ((Res.ok (D.bl false)) >>= fun x12 => Res.ok (Out.rt x12)) else (((D.isE te_CanalError j1) >>= fun x13 => D.toB x13 >>= fun k14 => if k14 then (D.isE te_ValueError j1) else Res.ok (D.bl false)) >>= fun x15 => Res.ok (Out.rt x15))))) : Res (Out (Unit) (Empty) (D))) >>= Out.then_ (fun s16 => ((Res.ok (D.bl false)) >>= fun x17 => Res.ok (Out.rt x17))))
def m_law (v_script : D) : Res D :=
  fin (S := Unit) (B := Empty) ((Res.ok (D.int 0)) >>= fun v_first_1 => ((Res.ok (D.int 0)) >>= fun v_second_2 => (((((((Res.ok v_script) >>= fun x3 => (Res.ok []) >>= fun xs4 => Res.ok (x3 :: xs4)) >>= fun xs5 => D.len xs5) >>= fun x6 => (Res.ok (D.int 0)) >>= fun x7 => D.gt x6 x7 >>= D.toB) >>= fun b8 => if b8 then (((Res.ok v_script) >>= fun x10 => (Res.ok (D.int 0)) >>= fun x11 => D.item x10 x11) >>= fun v_first_9 => (Res.ok (Out.nx v_first_9))) else (Res.ok (Out.nx v_first_1))) : Res (Out (D) (Empty) (D))) >>= Out.then_ (fun s12 => (((((((Res.ok v_script) >>= fun x13 => (Res.ok []) >>= fun xs14 => Res.ok (x13 :: xs14)) >>= fun xs15 => D.len xs15) >>= fun x16 => (Res.ok (D.int 1)) >>= fun x17 => D.gt x16 x17 >>= D.toB) >>= fun b18 => if b18 then (((Res.ok v_script) >>= fun x20 => (Res.ok (D.int 1)) >>= fun x21 => D.item x20 x21) >>= fun v_second_19 => (Res.ok (Out.nx v_second_19))) else (Res.ok (Out.nx v_second_2))) : Res (Out (D) (Empty) (D))) >>= Out.then_ (fun s22 => ((((((Res.ok s12) >>= fun x24 => (Res.ok []) >>= fun xs25 => Res.ok (x24 :: xs25)) >>= fun xs26 => F1 m__law_entry xs26) >>= fun x27 => (Res.ok []) >>= fun xs28 => Res.ok (x27 :: xs28)) >>= fun xs29 => F1 m__law_words xs29) >>= fun v_words_23 => (((Res.ok (D.str (Str.ofString " "))) >>= fun x51 => D.txt x51 >>= fun x51 => (((Res.ok v_words_23) >>= fun x48 => (((Res.ok s22) >>= fun x31 => (Res.ok (D.int 17)) >>= fun x32 => D.mod x31 x32) >>= fun x46 => (((Res.ok (D.int 1)) >>= fun x42 => (((Res.ok s22) >>= fun x33 => (Res.ok (D.int 17)) >>= fun x34 => D.fdiv x33 x34) >>= fun x40 => ((((Res.ok v_words_23) >>= fun x35 => (Res.ok []) >>= fun xs36 => Res.ok (x35 :: xs36)) >>= fun xs37 => D.len xs37) >>= fun x38 => (Res.ok (D.int 1)) >>= fun x39 => D.sub x38 x39) >>= fun x41 => D.mod x40 x41) >>= fun x43 => D.add x42 x43) >>= fun x44 => (Res.ok []) >>= fun xs45 => Res.ok (x44 :: xs45)) >>= fun xs47 => Res.ok (x46 :: xs47)) >>= fun xs49 => Res.ok (x48 :: xs49)) >>= fun xs50 => F3 m__law_bad_words xs50) >>= fun x52 => D.join x51 x52) >>= fun v_bad_30 => (((((Res.ok v_script) >>= fun x54 => ((Res.ok (D.int 2)) >>= D.toI) >>= fun l55 => (Res.ok none) >>= fun h56 => D.slice x54 l55 h56) >>= fun x57 => D.seq x57) >>= fun xs67 => lcSize xs67 >>= fun xs68 => compR (lcF (fun v_cell_58 => (Res.ok true)) (fun v_cell_58 => ((Res.ok (D.str (Str.ofString " "))) >>= fun x65 => D.txt x65 >>= fun x65 => (((((Res.ok v_cell_58) >>= fun x59 => (Res.ok []) >>= fun xs60 => Res.ok (x59 :: xs60)) >>= fun xs61 => F1 m__law_entry xs61) >>= fun x62 => (Res.ok []) >>= fun xs63 => Res.ok (x62 :: xs63)) >>= fun xs64 => F1 m__law_words xs64) >>= fun x66 => D.join x65 x66))) xs68) >>= fun v_rows_53 => ((((((Res.ok (D.str (Str.ofString ""))) >>= fun x77 => D.txt x77 >>= fun x77 => ((((Res.ok (D.lst v_rows_53)) >>= fun x70 => D.seq x70) >>= fun xs74 => lcSize xs74 >>= fun xs75 => compR (lcF (fun v_row_71 => (Res.ok true)) (fun v_row_71 => ((Res.ok v_row_71) >>= fun x72 => (Res.ok (D.str (Str.ofString "\n"))) >>= fun x73 => D.add x72 x73))) xs75) >>= fun x76 => Res.ok (D.lst x76)) >>= fun x78 => D.join x77 x78) >>= fun x79 => D.free x79) >>= fun x80 => (Res.ok []) >>= fun xs81 => Res.ok (x80 :: xs81)) >>= fun xs82 => F1 m_entries_of xs82) >>= fun v_good_69 => ((((((Res.ok v_good_69) >>= fun x83 => D.isT "list" x83) >>= D.truth) >>= fun b84 => Res.ok (!b84)) >>= fun b90 => if b90 then Res.ok true else ((((Res.ok v_good_69) >>= fun x85 => (Res.ok []) >>= fun xs86 => Res.ok (x85 :: xs86)) >>= fun xs87 => D.len xs87) >>= fun x88 => (Res.ok (D.int (v_rows_53.length : Nat))) >>= fun x89 => D.ne x88 x89 >>= D.toB)) >>= fun b91 => if b91 then Res.up ((Res.ok (D.bl false)) >>= fun x92 => Res.ok (Out.rt x92)) else ((((Res.ok s22) >>= fun x93 => (Res.ok (D.int 34)) >>= fun x94 => D.fdiv x93 x94) >>= fun x97 => ((Res.ok (D.int (v_rows_53.length : Nat))) >>= fun x95 => (Res.ok (D.int 1)) >>= fun x96 => D.add x95 x96) >>= fun x98 => D.mod x97 x98) >>= fun x99 => (Res.ok v_bad_30) >>= fun x100 => insR v_rows_53 x99 x100 >>= fun v_rows_101 => (((((((Res.ok (D.str (Str.ofString ""))) >>= fun x104 => ((Res.ok (D.bl false)) >>= fun x102 => (Res.ok []) >>= fun xs103 => Res.ok (x102 :: xs103)) >>= fun xs105 => Res.ok (x104 :: xs105)) >>= fun xs106 => F2 m__law_refused xs106) >>= D.truth) >>= fun b107 => Res.ok (!b107)) >>= fun b114 => if b114 then Res.ok true else (((((Res.ok v_bad_30) >>= fun x110 => ((Res.ok (D.bl false)) >>= fun x108 => (Res.ok []) >>= fun xs109 => Res.ok (x108 :: xs109)) >>= fun xs111 => Res.ok (x110 :: xs111)) >>= fun xs112 => F2 m__law_refused xs112) >>= D.truth) >>= fun b113 => Res.ok (!b113))) >>= fun b115 => if b115 then Res.up ((Res.ok (D.bl false)) >>= fun x116 => Res.ok (Out.rt x116)) else (((((Res.ok (D.str (Str.ofString ""))) >>= fun x124 => D.txt x124 >>= fun x124 => ((((Res.ok (D.lst v_rows_101)) >>= fun x117 => D.seq x117) >>= fun xs121 => lcSize xs121 >>= fun xs122 => compR (lcF (fun v_row_118 => (Res.ok true)) (fun v_row_118 => ((Res.ok v_row_118) >>= fun x119 => (Res.ok (D.str (Str.ofString "\n"))) >>= fun x120 => D.add x119 x120))) xs122) >>= fun x123 => Res.ok (D.lst x123)) >>= fun x125 => D.join x124 x125) >>= fun x128 => ((Res.ok (D.bl true)) >>= fun x126 => (Res.ok []) >>= fun xs127 => Res.ok (x126 :: xs127)) >>= fun xs129 => Res.ok (x128 :: xs129)) >>= fun xs130 => F2 m__law_refused xs130) >>= fun x131 => Res.ok (Out.rt x131)))))))))))))))
section
variable {P : Program} {w : World} {K : PySem.W.Frag} {mg : Str → Option Value} {base : Heap} {ca : Nat → Addr} {f : Addr} {fd : FuncData}
theorem sc_made_of : FnScope ["word", "signs", "sign"] ["word", "signs"] (defScope st_made_of) := ⟨rfl, rfl, rfl, by decide +kernel, rfl, by decide +kernel, by decide +kernel⟩
theorem vl_made_of : ((["word", "signs", "sign"] : List Str).all (locB (defScope st_made_of))) = true := by decide +kernel
theorem dl_made_of : ((["word", "signs", "sign"] : List Str).all dbgB) = true := by decide +kernel
theorem gls_made_of : ((["len", "LONGEST"] : List Str).all (glB (defScope st_made_of))) = true := by decide +kernel
theorem ok_made_of (D0 : FunD K "made_of" "made_of" (defArgs st_made_of) (defBody st_made_of) (defScope st_made_of) [] [] f fd) (T : Tx K mg ca) :
    FnOk P w K mg base (L2.CX P w) 1 f fd ["word", "signs"] (spD K ca (F2 m_made_of)) := by
  refine def_D D0 sc_made_of (fun ds h => ?_) (fun cdv A outer s H E ds hr nb => ?_)
  · obtain ⟨v_word, v_signs, rfl⟩ := F2_inv h
    rfl
  · obtain ⟨v_word, v_signs, rfl⟩ := F2_inv nb
    have tk : Takes (cxOf (L2.CX P w) P w K mg base ["word", "signs", "sign"] "made_of" (defScope st_made_of) f cdv A outer s H E) (WD E) := takes_of rfl rfl rfl rfl
    have po : PassesOwn (model P w) (cxOf (L2.CX P w) P w K mg base ["word", "signs", "sign"] "made_of" (defScope st_made_of) f cdv A outer s H E).A (cxOf (L2.CX P w) P w K mg base ["word", "signs", "sign"] "made_of" (defScope st_made_of) f cdv A outer s H E).env (cxOf (L2.CX P w) P w K mg base ["word", "signs", "sign"] "made_of" (defScope st_made_of) f cdv A outer s H E).xe := passes_of rfl
    exact ⟨Unit, fun _ => [], _, s_weak (ρ' := [some (.d v_word), some (.d v_signs), none]) (le_refl _) (s_seq (emb' := (fun (s : Unit) => [some (.d v_word), some (.d v_signs), none])) (s_forN (emb := (fun (s : Unit) => [some (.d v_word), some (.d v_signs), none])) (s0 := ()) (i := 2) po rfl (i_seq (e_var (i := 0) rfl (vi vl_made_of 0 rfl) rfl (dbg1 dl_made_of 0 rfl) (dbg2 dl_made_of 0 rfl))) sc_made_of.nd rfl (lo vl_made_of 2 rfl) le_nil (le_s (le_s (le_n le_nil))) (fun s2 v_sign_4 => (s_ifx (nE := fun e : Empty => e.elim) (t_cmp (op_notinA hr) l_notin (e_var (i := 2) rfl (vi vl_made_of 2 rfl) rfl (dbg1 dl_made_of 2 rfl) (dbg2 dl_made_of 2 rfl)) (e_var (i := 1) rfl (vi vl_made_of 1 rfl) rfl (dbg1 dl_made_of 1 rfl) (dbg2 dl_made_of 1 rfl)) (by rfl)) le_nil (s_one (s_ret e_bl le_nil)) (s_nil (s := ()) (le_s (le_s (le_n le_nil))))))) (fun s9 => (s_one (s_ret (e_chain op_le l_le op_le l_le e_int (e_callB call_len l_len (gl gls_made_of 0 rfl) T.n_len b_len (a_cons (e_var (i := 0) rfl (vi vl_made_of 0 rfl) rfl (dbg1 dl_made_of 0 rfl) (dbg2 dl_made_of 0 rfl)) a_nil)) (e_gInt (gl gls_made_of 1 rfl) T.k_LONGEST)) le_nil)))), rfl⟩
theorem sc_is_name : FnScope ["word"] ["word"] (defScope st_is_name) := ⟨rfl, rfl, rfl, by decide +kernel, rfl, by decide +kernel, by decide +kernel⟩
theorem vl_is_name : ((["word"] : List Str).all (locB (defScope st_is_name))) = true := by decide +kernel
theorem dl_is_name : ((["word"] : List Str).all dbgB) = true := by decide +kernel
theorem gls_is_name : ((["LETTERS", "made_of"] : List Str).all (glB (defScope st_is_name))) = true := by decide +kernel
theorem ok_is_name (D0 : FunD K "is_name" "is_name" (defArgs st_is_name) (defBody st_is_name) (defScope st_is_name) [] [] f fd) (T : Tx K mg ca) (c_made_of : Cal P w K mg base "made_of" 1 (spD K ca (F2 m_made_of)) []) :
    FnOk P w K mg base (L2.CX P w) 2 f fd ["word"] (spD K ca (F1 m_is_name)) := by
  refine def_D D0 sc_is_name (fun ds h => ?_) (fun cdv A outer s H E ds hr nb => ?_)
  · obtain ⟨v_word, rfl⟩ := F1_inv h
    rfl
  · obtain ⟨v_word, rfl⟩ := F1_inv nb
    have tk : Takes (cxOf (L2.CX P w) P w K mg base ["word"] "is_name" (defScope st_is_name) f cdv A outer s H E) (WD E) := takes_of rfl rfl rfl rfl
    have po : PassesOwn (model P w) (cxOf (L2.CX P w) P w K mg base ["word"] "is_name" (defScope st_is_name) f cdv A outer s H E).A (cxOf (L2.CX P w) P w K mg base ["word"] "is_name" (defScope st_is_name) f cdv A outer s H E).env (cxOf (L2.CX P w) P w K mg base ["word"] "is_name" (defScope st_is_name) f cdv A outer s H E).xe := passes_of rfl
    exact ⟨Unit, fun _ => [], _, s_weak (ρ' := [some (.d v_word)]) (le_refl _) (s_one (s_ret (e_call c_made_of (hr.mono (by decide)) (gl gls_is_name 1 rfl) (passAt tk) (a_cons (e_var (i := 0) rfl (vi vl_is_name 0 rfl) rfl (dbg1 dl_is_name 0 rfl) (dbg2 dl_is_name 0 rfl)) (a_cons (e_gStr (gl gls_is_name 0 rfl) T.k_LETTERS) a_nil))) le_nil)), rfl⟩
theorem sc_number_of : FnScope ["word"] ["word"] (defScope st_number_of) := ⟨rfl, rfl, rfl, by decide +kernel, rfl, by decide +kernel, by decide +kernel⟩
theorem vl_number_of : ((["word"] : List Str).all (locB (defScope st_number_of))) = true := by decide +kernel
theorem dl_number_of : ((["word"] : List Str).all dbgB) = true := by decide +kernel
theorem gls_number_of : ((["FIGURES", "made_of", "BadRow", "len", "int"] : List Str).all (glB (defScope st_number_of))) = true := by decide +kernel
theorem ok_number_of (D0 : FunD K "number_of" "number_of" (defArgs st_number_of) (defBody st_number_of) (defScope st_number_of) [] [] f fd) (T : Tx K mg ca) (c_made_of : Cal P w K mg base "made_of" 1 (spD K ca (F2 m_made_of)) []) :
    FnOk P w K mg base (L2.CX P w) 2 f fd ["word"] (spD K ca (F1 m_number_of)) := by
  refine def_D D0 sc_number_of (fun ds h => ?_) (fun cdv A outer s H E ds hr nb => ?_)
  · obtain ⟨v_word, rfl⟩ := F1_inv h
    rfl
  · obtain ⟨v_word, rfl⟩ := F1_inv nb
    have tk : Takes (cxOf (L2.CX P w) P w K mg base ["word"] "number_of" (defScope st_number_of) f cdv A outer s H E) (WD E) := takes_of rfl rfl rfl rfl
    have po : PassesOwn (model P w) (cxOf (L2.CX P w) P w K mg base ["word"] "number_of" (defScope st_number_of) f cdv A outer s H E).A (cxOf (L2.CX P w) P w K mg base ["word"] "number_of" (defScope st_number_of) f cdv A outer s H E).env (cxOf (L2.CX P w) P w K mg base ["word"] "number_of" (defScope st_number_of) f cdv A outer s H E).xe := passes_of rfl
    exact ⟨Unit, fun _ => [], _, s_weak (ρ' := [some (.d v_word)]) (le_refl _) (s_ifx (nE := fun e : Empty => e.elim) (t_not (t_truth (e_call c_made_of (hr.mono (by decide)) (gl gls_number_of 1 rfl) (passAt tk) (a_cons (e_var (i := 0) rfl (vi vl_number_of 0 rfl) rfl (dbg1 dl_number_of 0 rfl) (dbg2 dl_number_of 0 rfl)) (a_cons (e_gStr (gl gls_number_of 0 rfl) T.k_FIGURES) a_nil))))) le_nil (s_one (s_raise rfl tk (T.e_BadRow.made (gl gls_number_of 2 rfl)) le_nil)) (s_ifx (nE := fun e : Empty => e.elim) (PW.pt (w_and (t_cmp (op_eqA hr.units) l_eq (e_item (e_var (i := 0) rfl (vi vl_number_of 0 rfl) rfl (dbg1 dl_number_of 0 rfl) (dbg2 dl_number_of 0 rfl)) e_int) e_str (nomark _)) (w_and1 (t_cmp op_gt l_gt (e_callB call_len l_len (gl gls_number_of 3 rfl) T.n_len b_len (a_cons (e_var (i := 0) rfl (vi vl_number_of 0 rfl) rfl (dbg1 dl_number_of 0 rfl) (dbg2 dl_number_of 0 rfl)) a_nil)) e_int (nomark _))))) le_nil (s_one (s_raise rfl tk (T.e_BadRow.made (gl gls_number_of 2 rfl)) le_nil)) (s_one (s_ret (e_callT call_intA l_toInt (gl gls_number_of 4 rfl) T.n_int b_int (a_cons (e_var (i := 0) rfl (vi vl_number_of 0 rfl) rfl (dbg1 dl_number_of 0 rfl) (dbg2 dl_number_of 0 rfl)) a_nil)) le_nil)))), rfl⟩
theorem sc_name_of : FnScope ["word"] ["word"] (defScope st_name_of) := ⟨rfl, rfl, rfl, by decide +kernel, rfl, by decide +kernel, by decide +kernel⟩
theorem vl_name_of : ((["word"] : List Str).all (locB (defScope st_name_of))) = true := by decide +kernel
theorem dl_name_of : ((["word"] : List Str).all dbgB) = true := by decide +kernel
theorem gls_name_of : ((["is_name", "BadRow"] : List Str).all (glB (defScope st_name_of))) = true := by decide +kernel
theorem ok_name_of (D0 : FunD K "name_of" "name_of" (defArgs st_name_of) (defBody st_name_of) (defScope st_name_of) [] [] f fd) (T : Tx K mg ca) (c_is_name : Cal P w K mg base "is_name" 2 (spD K ca (F1 m_is_name)) []) :
    FnOk P w K mg base (L2.CX P w) 3 f fd ["word"] (spD K ca (F1 m_name_of)) := by
  refine def_D D0 sc_name_of (fun ds h => ?_) (fun cdv A outer s H E ds hr nb => ?_)
  · obtain ⟨v_word, rfl⟩ := F1_inv h
    rfl
  · obtain ⟨v_word, rfl⟩ := F1_inv nb
    have tk : Takes (cxOf (L2.CX P w) P w K mg base ["word"] "name_of" (defScope st_name_of) f cdv A outer s H E) (WD E) := takes_of rfl rfl rfl rfl
    have po : PassesOwn (model P w) (cxOf (L2.CX P w) P w K mg base ["word"] "name_of" (defScope st_name_of) f cdv A outer s H E).A (cxOf (L2.CX P w) P w K mg base ["word"] "name_of" (defScope st_name_of) f cdv A outer s H E).env (cxOf (L2.CX P w) P w K mg base ["word"] "name_of" (defScope st_name_of) f cdv A outer s H E).xe := passes_of rfl
    exact ⟨Unit, fun _ => [], _, s_weak (ρ' := [some (.d v_word)]) (le_refl _) (s_ifx (nE := fun e : Empty => e.elim) (t_not (t_truth (e_call c_is_name (hr.mono (by decide)) (gl gls_name_of 0 rfl) (passAt tk) (a_cons (e_var (i := 0) rfl (vi vl_name_of 0 rfl) rfl (dbg1 dl_name_of 0 rfl) (dbg2 dl_name_of 0 rfl)) a_nil)))) le_nil (s_one (s_raise rfl tk (T.e_BadRow.made (gl gls_name_of 1 rfl)) le_nil)) (s_one (s_ret (e_var (i := 0) rfl (vi vl_name_of 0 rfl) rfl (dbg1 dl_name_of 0 rfl) (dbg2 dl_name_of 0 rfl)) le_nil))), rfl⟩
theorem sc_pairs_of : FnScope ["words", "k"] ["words"] (defScope st_pairs_of) := ⟨rfl, rfl, rfl, by decide +kernel, rfl, by decide +kernel, by decide +kernel⟩
theorem vl_pairs_of : ((["words"] : List Str).all (locB (defScope st_pairs_of))) = true := by decide +kernel
theorem dl_pairs_of : ((["words"] : List Str).all dbgB) = true := by decide +kernel
theorem gls_pairs_of : ((["len", "BadRow", "range"] : List Str).all (glB (defScope st_pairs_of))) = true := by decide +kernel
theorem ok_pairs_of (D0 : FunD K "pairs_of" "pairs_of" (defArgs st_pairs_of) (defBody st_pairs_of) (defScope st_pairs_of) [] [] f fd) (T : Tx K mg ca) :
    FnOk P w K mg base (L2.CX P w) 1 f fd ["words"] (spD K ca (F1 m_pairs_of)) := by
  refine def_D D0 sc_pairs_of (fun ds h => ?_) (fun cdv A outer s H E ds hr nb => ?_)
  · obtain ⟨v_words, rfl⟩ := F1_inv h
    rfl
  · obtain ⟨v_words, rfl⟩ := F1_inv nb
    have tk : Takes (cxOf (L2.CX P w) P w K mg base ["words", "k"] "pairs_of" (defScope st_pairs_of) f cdv A outer s H E) (WD E) := takes_of rfl rfl rfl rfl
    have po : PassesOwn (model P w) (cxOf (L2.CX P w) P w K mg base ["words", "k"] "pairs_of" (defScope st_pairs_of) f cdv A outer s H E).A (cxOf (L2.CX P w) P w K mg base ["words", "k"] "pairs_of" (defScope st_pairs_of) f cdv A outer s H E).env (cxOf (L2.CX P w) P w K mg base ["words", "k"] "pairs_of" (defScope st_pairs_of) f cdv A outer s H E).xe := passes_of rfl
    exact ⟨Unit, fun _ => [], _, s_weak (ρ' := [some (.d v_words), none]) (le_refl _) (s_ifx (nE := fun e : Empty => e.elim) (PW.pt (w_or (t_cmp op_lt l_lt (e_callB call_len l_len (gl gls_pairs_of 0 rfl) T.n_len b_len (a_cons (e_var (i := 0) rfl (vi vl_pairs_of 0 rfl) rfl (dbg1 dl_pairs_of 0 rfl) (dbg2 dl_pairs_of 0 rfl)) a_nil)) e_int (nomark _)) (w_or (t_cmp op_gt l_gt (e_callB call_len l_len (gl gls_pairs_of 0 rfl) T.n_len b_len (a_cons (e_var (i := 0) rfl (vi vl_pairs_of 0 rfl) rfl (dbg1 dl_pairs_of 0 rfl) (dbg2 dl_pairs_of 0 rfl)) a_nil)) e_int (nomark _)) (w_or1 (t_cmp (op_eqA hr.units) l_eq (e_op op_mod l_mod (e_callB call_len l_len (gl gls_pairs_of 0 rfl) T.n_len b_len (a_cons (e_var (i := 0) rfl (vi vl_pairs_of 0 rfl) rfl (dbg1 dl_pairs_of 0 rfl) (dbg2 dl_pairs_of 0 rfl)) a_nil)) e_int) e_int (nomark _)))))) le_nil (s_one (s_raise rfl tk (T.e_BadRow.made (gl gls_pairs_of 1 rfl)) le_nil)) (s_one (s_ret (e_pub (e_lcN (own := [((Str.ofString "k"), 1)]) (i := 1) rfl sc_pairs_of.nd (i_range3 (gl gls_pairs_of 2 rfl) T.n_range (a_cons e_int (a_cons (e_callB call_len l_len (gl gls_pairs_of 0 rfl) T.n_len b_len (a_cons (e_var (i := 0) rfl (vi vl_pairs_of 0 rfl) rfl (dbg1 dl_pairs_of 0 rfl) (dbg2 dl_pairs_of 0 rfl)) a_nil)) (a_cons e_int a_nil)))) rfl (blkOk_by (by show blkC ["words", "k"] (defScope st_pairs_of) _ _ = true; decide +kernel)) (le_refl _) rfl (by decide) (fun _ _ _ _ _ => pg_name (i := 1) sc_pairs_of.nd rfl (by first | exact Or.inl rfl | exact Or.inr rfl)) (fun v_k_31 _ _ _ _ _ => ts_nil) (fun v_k_31 _ _ _ _ _ => (e_tup (a_cons (e_item (e_var (i := 0) rfl (by first | exact Or.inl rfl | exact Or.inr (Or.inl rfl) | exact Or.inr (Or.inr rfl)) rfl (by decide) (by decide)) (e_var (i := 1) rfl (by first | exact Or.inl rfl | exact Or.inr (Or.inl rfl) | exact Or.inr (Or.inr rfl)) rfl (by decide) (by decide))) (a_cons (e_item (e_var (i := 0) rfl (by first | exact Or.inl rfl | exact Or.inr (Or.inl rfl) | exact Or.inr (Or.inr rfl)) rfl (by decide) (by decide)) (e_op op_addA l_add (e_var (i := 1) rfl (by first | exact Or.inl rfl | exact Or.inr (Or.inl rfl) | exact Or.inr (Or.inr rfl)) rfl (by decide) (by decide)) e_int)) a_nil)))))) le_nil))), rfl⟩
theorem sc_steps_of : FnScope ["words", "steps", "pair"] ["words"] (defScope st_steps_of) := ⟨rfl, rfl, rfl, by decide +kernel, rfl, by decide +kernel, by decide +kernel⟩
theorem vl_steps_of : ((["words", "steps", "pair"] : List Str).all (locB (defScope st_steps_of))) = true := by decide +kernel
theorem dl_steps_of : ((["words", "steps", "pair"] : List Str).all dbgB) = true := by decide +kernel
theorem gls_steps_of : ((["pairs_of", "WAYS", "BadRow", "name_of", "tuple"] : List Str).all (glB (defScope st_steps_of))) = true := by decide +kernel
theorem ok_steps_of (D0 : FunD K "steps_of" "steps_of" (defArgs st_steps_of) (defBody st_steps_of) (defScope st_steps_of) [] [] f fd) (T : Tx K mg ca) (c_name_of : Cal P w K mg base "name_of" 3 (spD K ca (F1 m_name_of)) []) (c_pairs_of : Cal P w K mg base "pairs_of" 1 (spD K ca (F1 m_pairs_of)) []) :
    FnOk P w K mg base (L2.CX P w) 4 f fd ["words"] (spD K ca (F1 m_steps_of)) := by
  refine def_D D0 sc_steps_of (fun ds h => ?_) (fun cdv A outer s H E ds hr nb => ?_)
  · obtain ⟨v_words, rfl⟩ := F1_inv h
    rfl
  · obtain ⟨v_words, rfl⟩ := F1_inv nb
    have tk : Takes (cxOf (L2.CX P w) P w K mg base ["words", "steps", "pair"] "steps_of" (defScope st_steps_of) f cdv A outer s H E) (WD E) := takes_of rfl rfl rfl rfl
    have po : PassesOwn (model P w) (cxOf (L2.CX P w) P w K mg base ["words", "steps", "pair"] "steps_of" (defScope st_steps_of) f cdv A outer s H E).A (cxOf (L2.CX P w) P w K mg base ["words", "steps", "pair"] "steps_of" (defScope st_steps_of) f cdv A outer s H E).env (cxOf (L2.CX P w) P w K mg base ["words", "steps", "pair"] "steps_of" (defScope st_steps_of) f cdv A outer s H E).xe := passes_of rfl
    exact ⟨Unit, fun _ => [], _, s_weak (ρ' := [some (.d v_words), none, none]) (le_refl _) (s_setL (i := 1) sc_steps_of.nd rfl (lo vl_steps_of 1 rfl) (e_lst a_nil) le_nil (fun v_steps_1 => (s_seq (emb' := (fun (s : List D) => [some (.d v_words), some (.ol none s), none])) (s_forN (emb := (fun (s : List D) => [some (.d v_words), some (.ol none s), none])) (s0 := v_steps_1) (i := 2) po rfl (i_seq (e_call c_pairs_of (hr.mono (by decide)) (gl gls_steps_of 0 rfl) (passAt tk) (a_cons (e_var (i := 0) rfl (vi vl_steps_of 0 rfl) rfl (dbg1 dl_steps_of 0 rfl) (dbg2 dl_steps_of 0 rfl)) a_nil))) sc_steps_of.nd rfl (lo vl_steps_of 2 rfl) le_nil (le_s (le_s (le_n le_nil))) (fun s7 v_pair_9 => (s_ifx (nE := fun e : Empty => e.elim) (t_cmp (op_notinA hr) l_notin (e_item (e_var (i := 2) rfl (vi vl_steps_of 2 rfl) rfl (dbg1 dl_steps_of 2 rfl) (dbg2 dl_steps_of 2 rfl)) e_int) (e_gTup (gl gls_steps_of 1 rfl) T.k_WAYS) (by rfl)) le_nil (s_one (s_raise rfl tk (T.e_BadRow.made (gl gls_steps_of 2 rfl)) le_nil)) (s_append (i := 1) rfl (vi vl_steps_of 1 rfl) (dbg1 dl_steps_of 1 rfl) (dbg2 dl_steps_of 1 rfl) rfl (e_tup (a_cons (e_call c_name_of (hr.mono (by decide)) (gl gls_steps_of 3 rfl) (passAt tk) (a_cons (e_item (e_var (i := 2) rfl (vi vl_steps_of 2 rfl) rfl (dbg1 dl_steps_of 2 rfl) (dbg2 dl_steps_of 2 rfl)) e_int) a_nil)) (a_cons (e_item (e_var (i := 2) rfl (vi vl_steps_of 2 rfl) rfl (dbg1 dl_steps_of 2 rfl) (dbg2 dl_steps_of 2 rfl)) e_int) a_nil))) le_nil (fun v_steps_29 => (s_nil (s := v_steps_29) (le_s (le_s (le_n le_nil))))))))) (fun s30 => (s_pub (i := 1) rfl (s_one (s_ret (e_callT call_tuple_of l_toTup (gl gls_steps_of 4 rfl) T.n_tuple b_tuple (a_cons (e_var (i := 1) rfl (vi vl_steps_of 1 rfl) rfl (dbg1 dl_steps_of 1 rfl) (dbg2 dl_steps_of 1 rfl)) a_nil)) le_nil))))))), rfl⟩
theorem sc_weather_of : FnScope ["words", "pair"] ["words"] (defScope st_weather_of) := ⟨rfl, rfl, rfl, by decide +kernel, rfl, by decide +kernel, by decide +kernel⟩
theorem vl_weather_of : ((["words"] : List Str).all (locB (defScope st_weather_of))) = true := by decide +kernel
theorem dl_weather_of : ((["words"] : List Str).all dbgB) = true := by decide +kernel
theorem gls_weather_of : ((["pairs_of", "tuple"] : List Str).all (glB (defScope st_weather_of))) = true := by decide +kernel
theorem ok_weather_of (D0 : FunD K "weather_of" "weather_of" (defArgs st_weather_of) (defBody st_weather_of) (defScope st_weather_of) [] [] f fd) (T : Tx K mg ca) (c_number_of : Cal P w K mg base "number_of" 2 (spD K ca (F1 m_number_of)) []) (c_pairs_of : Cal P w K mg base "pairs_of" 1 (spD K ca (F1 m_pairs_of)) []) :
    FnOk P w K mg base (L2.CX P w) 3 f fd ["words"] (spD K ca (F1 m_weather_of)) := by
  refine def_D D0 sc_weather_of (fun ds h => ?_) (fun cdv A outer s H E ds hr nb => ?_)
  · obtain ⟨v_words, rfl⟩ := F1_inv h
    rfl
  · obtain ⟨v_words, rfl⟩ := F1_inv nb
    have tk : Takes (cxOf (L2.CX P w) P w K mg base ["words", "pair"] "weather_of" (defScope st_weather_of) f cdv A outer s H E) (WD E) := takes_of rfl rfl rfl rfl
    have po : PassesOwn (model P w) (cxOf (L2.CX P w) P w K mg base ["words", "pair"] "weather_of" (defScope st_weather_of) f cdv A outer s H E).A (cxOf (L2.CX P w) P w K mg base ["words", "pair"] "weather_of" (defScope st_weather_of) f cdv A outer s H E).env (cxOf (L2.CX P w) P w K mg base ["words", "pair"] "weather_of" (defScope st_weather_of) f cdv A outer s H E).xe := passes_of rfl
    exact ⟨Unit, fun _ => [], _, s_weak (ρ' := [some (.d v_words), none]) (le_refl _) (s_one (s_ret (e_callT call_tuple_of l_toTup (gl gls_weather_of 1 rfl) T.n_tuple b_tuple (a_cons (e_pub (e_lcNX (own := [((Str.ofString "pair"), 1)]) (i := 1) rfl sc_weather_of.nd rfl rfl tk (i_seq (e_call c_pairs_of (hr.mono (by decide)) (gl gls_weather_of 0 rfl) (passAt tk) (a_cons (e_var (i := 0) rfl (vi vl_weather_of 0 rfl) rfl (dbg1 dl_weather_of 0 rfl) (dbg2 dl_weather_of 0 rfl)) a_nil))) rfl (blkOk_by (by show blkC ["words", "pair"] (defScope st_weather_of) _ _ = true; decide +kernel)) (le_refl _) rfl (by decide) (fun _ _ _ _ _ _ => pg_name (i := 1) sc_weather_of.nd rfl (by first | exact Or.inl rfl | exact Or.inr rfl)) (fun v_pair_5 _ _ _ _ _ _ W tkb => ts_nilX) (fun v_pair_5 _ _ _ _ _ _ W tkb => (e_tup (a_cons (e_call c_number_of (hr.mono (by decide)) rfl tkb (a_cons (e_item (e_var (i := 1) rfl (by first | exact Or.inl rfl | exact Or.inr (Or.inl rfl) | exact Or.inr (Or.inr rfl)) rfl (by decide) (by decide)) e_int) a_nil)) (a_cons (e_call c_number_of (hr.mono (by decide)) rfl tkb (a_cons (e_item (e_var (i := 1) rfl (by first | exact Or.inl rfl | exact Or.inr (Or.inl rfl) | exact Or.inr (Or.inr rfl)) rfl (by decide) (by decide)) e_int) a_nil)) a_nil)))))) a_nil)) le_nil)), rfl⟩
theorem sc_entry_of : FnScope ["row", "words", "head"] ["row"] (defScope st_entry_of) := ⟨rfl, rfl, rfl, by decide +kernel, rfl, by decide +kernel, by decide +kernel⟩
theorem vl_entry_of : ((["row", "words", "head"] : List Str).all (locB (defScope st_entry_of))) = true := by decide +kernel
theorem dl_entry_of : ((["row", "words", "head"] : List Str).all dbgB) = true := by decide +kernel
theorem gls_entry_of : ((["len", "name_of", "steps_of", "weather_of", "number_of", "BadRow"] : List Str).all (glB (defScope st_entry_of))) = true := by decide +kernel
theorem ok_entry_of (D0 : FunD K "entry_of" "entry_of" (defArgs st_entry_of) (defBody st_entry_of) (defScope st_entry_of) [] [] f fd) (T : Tx K mg ca) (c_name_of : Cal P w K mg base "name_of" 3 (spD K ca (F1 m_name_of)) []) (c_number_of : Cal P w K mg base "number_of" 2 (spD K ca (F1 m_number_of)) []) (c_steps_of : Cal P w K mg base "steps_of" 4 (spD K ca (F1 m_steps_of)) []) (c_weather_of : Cal P w K mg base "weather_of" 3 (spD K ca (F1 m_weather_of)) []) :
    FnOk P w K mg base (L2.CX P w) 5 f fd ["row"] (spD K ca (F1 m_entry_of)) := by
  refine def_D D0 sc_entry_of (fun ds h => ?_) (fun cdv A outer s H E ds hr nb => ?_)
  · obtain ⟨v_row, rfl⟩ := F1_inv h
    rfl
  · obtain ⟨v_row, rfl⟩ := F1_inv nb
    have tk : Takes (cxOf (L2.CX P w) P w K mg base ["row", "words", "head"] "entry_of" (defScope st_entry_of) f cdv A outer s H E) (WD E) := takes_of rfl rfl rfl rfl
    have po : PassesOwn (model P w) (cxOf (L2.CX P w) P w K mg base ["row", "words", "head"] "entry_of" (defScope st_entry_of) f cdv A outer s H E).A (cxOf (L2.CX P w) P w K mg base ["row", "words", "head"] "entry_of" (defScope st_entry_of) f cdv A outer s H E).env (cxOf (L2.CX P w) P w K mg base ["row", "words", "head"] "entry_of" (defScope st_entry_of) f cdv A outer s H E).xe := passes_of rfl
    exact ⟨Unit, fun _ => [], _, s_weak (ρ' := [some (.d v_row), none, none]) (le_refl _) (s_set (i := 1) sc_entry_of.nd rfl (lo vl_entry_of 1 rfl) (e_pub (e_split (e_var (i := 0) rfl (vi vl_entry_of 0 rfl) rfl (dbg1 dl_entry_of 0 rfl) (dbg2 dl_entry_of 0 rfl)) e_str)) le_nil (fun v_words_1 => (s_set (i := 2) sc_entry_of.nd rfl (lo vl_entry_of 2 rfl) (e_item (e_var (i := 1) rfl (vi vl_entry_of 1 rfl) rfl (dbg1 dl_entry_of 1 rfl) (dbg2 dl_entry_of 1 rfl)) e_int) le_nil (fun v_head_5 => (s_ifx (nE := fun e : Empty => e.elim) (PW.pt (w_and (t_cmp (op_eqA hr.units) l_eq (e_var (i := 2) rfl (vi vl_entry_of 2 rfl) rfl (dbg1 dl_entry_of 2 rfl) (dbg2 dl_entry_of 2 rfl)) e_str (nomark _)) (w_and1 (t_cmp op_gt l_gt (e_callB call_len l_len (gl gls_entry_of 0 rfl) T.n_len b_len (a_cons (e_var (i := 1) rfl (vi vl_entry_of 1 rfl) rfl (dbg1 dl_entry_of 1 rfl) (dbg2 dl_entry_of 1 rfl)) a_nil)) e_int (nomark _))))) le_nil (s_one (s_ret (e_tup (a_cons e_str (a_cons (e_call c_name_of (hr.mono (by decide)) (gl gls_entry_of 1 rfl) (passAt tk) (a_cons (e_item (e_var (i := 1) rfl (vi vl_entry_of 1 rfl) rfl (dbg1 dl_entry_of 1 rfl) (dbg2 dl_entry_of 1 rfl)) e_int) a_nil)) (a_cons (e_call c_name_of (hr.mono (by decide)) (gl gls_entry_of 1 rfl) (passAt tk) (a_cons (e_item (e_var (i := 1) rfl (vi vl_entry_of 1 rfl) rfl (dbg1 dl_entry_of 1 rfl) (dbg2 dl_entry_of 1 rfl)) e_int) a_nil)) (a_cons (e_call c_steps_of (hr.mono (by decide)) (gl gls_entry_of 2 rfl) (passAt tk) (a_cons (e_slice (e_var (i := 1) rfl (vi vl_entry_of 1 rfl) rfl (dbg1 dl_entry_of 1 rfl) (dbg2 dl_entry_of 1 rfl)) (p_some e_int) p_none) a_nil)) a_nil))))) le_nil)) (s_ifx (nE := fun e : Empty => e.elim) (t_cmp (op_eqA hr.units) l_eq (e_var (i := 2) rfl (vi vl_entry_of 2 rfl) rfl (dbg1 dl_entry_of 2 rfl) (dbg2 dl_entry_of 2 rfl)) e_str (nomark _)) le_nil (s_one (s_ret (e_tup (a_cons e_str (a_cons (e_call c_weather_of (hr.mono (by decide)) (gl gls_entry_of 3 rfl) (passAt tk) (a_cons (e_slice (e_var (i := 1) rfl (vi vl_entry_of 1 rfl) rfl (dbg1 dl_entry_of 1 rfl) (dbg2 dl_entry_of 1 rfl)) (p_some e_int) p_none) a_nil)) a_nil))) le_nil)) (s_ifx (nE := fun e : Empty => e.elim) (PW.pt (w_and (t_cmp (op_inA hr) l_in (e_var (i := 2) rfl (vi vl_entry_of 2 rfl) rfl (dbg1 dl_entry_of 2 rfl) (dbg2 dl_entry_of 2 rfl)) (e_tup (a_cons e_str (a_cons e_str a_nil))) (by rfl)) (w_and1 (t_cmp (op_eqA hr.units) l_eq (e_callB call_len l_len (gl gls_entry_of 0 rfl) T.n_len b_len (a_cons (e_var (i := 1) rfl (vi vl_entry_of 1 rfl) rfl (dbg1 dl_entry_of 1 rfl) (dbg2 dl_entry_of 1 rfl)) a_nil)) e_int (nomark _))))) le_nil (s_one (s_ret (e_tup (a_cons (e_var (i := 2) rfl (vi vl_entry_of 2 rfl) rfl (dbg1 dl_entry_of 2 rfl) (dbg2 dl_entry_of 2 rfl)) (a_cons (e_call c_name_of (hr.mono (by decide)) (gl gls_entry_of 1 rfl) (passAt tk) (a_cons (e_item (e_var (i := 1) rfl (vi vl_entry_of 1 rfl) rfl (dbg1 dl_entry_of 1 rfl) (dbg2 dl_entry_of 1 rfl)) e_int) a_nil)) a_nil))) le_nil)) (s_ifx (nE := fun e : Empty => e.elim) (PW.pt (w_and (t_cmp (op_inA hr) l_in (e_var (i := 2) rfl (vi vl_entry_of 2 rfl) rfl (dbg1 dl_entry_of 2 rfl) (dbg2 dl_entry_of 2 rfl)) (e_tup (a_cons e_str (a_cons e_str a_nil))) (by rfl)) (w_and1 (t_cmp (op_eqA hr.units) l_eq (e_callB call_len l_len (gl gls_entry_of 0 rfl) T.n_len b_len (a_cons (e_var (i := 1) rfl (vi vl_entry_of 1 rfl) rfl (dbg1 dl_entry_of 1 rfl) (dbg2 dl_entry_of 1 rfl)) a_nil)) e_int (nomark _))))) le_nil (s_one (s_ret (e_tup (a_cons (e_var (i := 2) rfl (vi vl_entry_of 2 rfl) rfl (dbg1 dl_entry_of 2 rfl) (dbg2 dl_entry_of 2 rfl)) (a_cons (e_call c_name_of (hr.mono (by decide)) (gl gls_entry_of 1 rfl) (passAt tk) (a_cons (e_item (e_var (i := 1) rfl (vi vl_entry_of 1 rfl) rfl (dbg1 dl_entry_of 1 rfl) (dbg2 dl_entry_of 1 rfl)) e_int) a_nil)) (a_cons (e_call c_number_of (hr.mono (by decide)) (gl gls_entry_of 4 rfl) (passAt tk) (a_cons (e_item (e_var (i := 1) rfl (vi vl_entry_of 1 rfl) rfl (dbg1 dl_entry_of 1 rfl) (dbg2 dl_entry_of 1 rfl)) e_int) a_nil)) a_nil)))) le_nil)) (s_one (s_raise rfl tk (T.e_BadRow.made (gl gls_entry_of 5 rfl)) le_nil)))))))))), rfl⟩
theorem sc_entries_of : FnScope ["text", "row"] ["text"] (defScope st_entries_of) := ⟨rfl, rfl, rfl, by decide +kernel, rfl, by decide +kernel, by decide +kernel⟩
theorem vl_entries_of : ((["text"] : List Str).all (locB (defScope st_entries_of))) = true := by decide +kernel
theorem dl_entries_of : ((["text"] : List Str).all dbgB) = true := by decide +kernel
theorem gls_entries_of : (([] : List Str).all (glB (defScope st_entries_of))) = true := by decide +kernel
theorem ok_entries_of (D0 : FunD K "entries_of" "entries_of" (defArgs st_entries_of) (defBody st_entries_of) (defScope st_entries_of) [] [] f fd) (T : Tx K mg ca) (c_entry_of : Cal P w K mg base "entry_of" 5 (spD K ca (F1 m_entry_of)) []) :
    FnOk P w K mg base (L2.CX P w) 6 f fd ["text"] (spD K ca (F1 m_entries_of)) := by
  refine def_D D0 sc_entries_of (fun ds h => ?_) (fun cdv A outer s H E ds hr nb => ?_)
  · obtain ⟨v_text, rfl⟩ := F1_inv h
    rfl
  · obtain ⟨v_text, rfl⟩ := F1_inv nb
    have tk : Takes (cxOf (L2.CX P w) P w K mg base ["text", "row"] "entries_of" (defScope st_entries_of) f cdv A outer s H E) (WD E) := takes_of rfl rfl rfl rfl
    have po : PassesOwn (model P w) (cxOf (L2.CX P w) P w K mg base ["text", "row"] "entries_of" (defScope st_entries_of) f cdv A outer s H E).A (cxOf (L2.CX P w) P w K mg base ["text", "row"] "entries_of" (defScope st_entries_of) f cdv A outer s H E).env (cxOf (L2.CX P w) P w K mg base ["text", "row"] "entries_of" (defScope st_entries_of) f cdv A outer s H E).xe := passes_of rfl
    exact ⟨Unit, fun _ => [], _, s_weak (ρ' := [some (.d v_text), none]) (le_refl _) (s_one (s_ret (e_pub (e_lcNX (own := [((Str.ofString "row"), 1)]) (i := 1) rfl sc_entries_of.nd rfl rfl tk (i_seq (e_pub (e_split (e_var (i := 0) rfl (vi vl_entries_of 0 rfl) rfl (dbg1 dl_entries_of 0 rfl) (dbg2 dl_entries_of 0 rfl)) e_str))) rfl (blkOk_by (by show blkC ["text", "row"] (defScope st_entries_of) _ _ = true; decide +kernel)) (le_refl _) rfl (by decide) (fun _ _ _ _ _ _ => pg_name (i := 1) sc_entries_of.nd rfl (by first | exact Or.inl rfl | exact Or.inr rfl)) (fun v_row_5 _ _ _ _ _ _ W tkb => ts_oneX (t_cmp (op_neA hr.units) l_ne (e_var (i := 1) rfl (by first | exact Or.inl rfl | exact Or.inr (Or.inl rfl) | exact Or.inr (Or.inr rfl)) rfl (by decide) (by decide)) e_str (nomark _))) (fun v_row_5 _ _ _ _ _ _ W tkb => (e_call c_entry_of (hr.mono (by decide)) rfl tkb (a_cons (e_var (i := 1) rfl (by first | exact Or.inl rfl | exact Or.inr (Or.inl rfl) | exact Or.inr (Or.inr rfl)) rfl (by decide) (by decide)) a_nil))))) le_nil)), rfl⟩
theorem sc__law_name : FnScope ["seed", "name", "k"] ["seed"] (defScope st__law_name) := ⟨rfl, rfl, rfl, by decide +kernel, rfl, by decide +kernel, by decide +kernel⟩
theorem vl__law_name : ((["seed", "name", "k"] : List Str).all (locB (defScope st__law_name))) = true := by decide +kernel
theorem dl__law_name : ((["seed", "name", "k"] : List Str).all dbgB) = true := by decide +kernel
theorem gls__law_name : ((["range"] : List Str).all (glB (defScope st__law_name))) = true := by decide +kernel
theorem ok__law_name (D0 : FunD K "_law_name" "_law_name" (defArgs st__law_name) (defBody st__law_name) (defScope st__law_name) [] [] f fd) (T : Tx K mg ca) :
    FnOk P w K mg base (L2.CX P w) 1 f fd ["seed"] (spD K ca (F1 m__law_name)) := by
  refine def_D D0 sc__law_name (fun ds h => ?_) (fun cdv A outer s H E ds hr nb => ?_)
  · obtain ⟨v_seed, rfl⟩ := F1_inv h
    rfl
  · obtain ⟨v_seed, rfl⟩ := F1_inv nb
    have tk : Takes (cxOf (L2.CX P w) P w K mg base ["seed", "name", "k"] "_law_name" (defScope st__law_name) f cdv A outer s H E) (WD E) := takes_of rfl rfl rfl rfl
    have po : PassesOwn (model P w) (cxOf (L2.CX P w) P w K mg base ["seed", "name", "k"] "_law_name" (defScope st__law_name) f cdv A outer s H E).A (cxOf (L2.CX P w) P w K mg base ["seed", "name", "k"] "_law_name" (defScope st__law_name) f cdv A outer s H E).env (cxOf (L2.CX P w) P w K mg base ["seed", "name", "k"] "_law_name" (defScope st__law_name) f cdv A outer s H E).xe := passes_of rfl
    exact ⟨Unit, fun _ => [], _, s_weak (ρ' := [some (.d v_seed), none, none]) (le_refl _) (s_set (i := 1) sc__law_name.nd rfl (lo vl__law_name 1 rfl) e_str le_nil (fun v_name_1 => (s_seq (emb' := (fun (s : D × D) => [some (.d s.1), some (.d s.2), none])) (s_forN (emb := (fun (s : D × D) => [some (.d s.1), some (.d s.2), none])) (s0 := (v_seed, v_name_1)) (i := 2) po rfl (i_range1 (gl gls__law_name 0 rfl) T.n_range (a_cons (e_op op_addA l_add e_int (e_op op_mod l_mod (e_var (i := 0) rfl (vi vl__law_name 0 rfl) rfl (dbg1 dl__law_name 0 rfl) (dbg2 dl__law_name 0 rfl)) e_int)) a_nil)) sc__law_name.nd rfl (lo vl__law_name 2 rfl) le_nil (le_s (le_s (le_n le_nil))) (fun s9 v_k_11 => (s_set (i := 0) sc__law_name.nd rfl (lo vl__law_name 0 rfl) (e_op op_mod l_mod (e_op op_mulA l_mul (e_op op_addA l_add (e_var (i := 0) rfl (vi vl__law_name 0 rfl) rfl (dbg1 dl__law_name 0 rfl) (dbg2 dl__law_name 0 rfl)) e_int) e_int) e_int) le_nil (fun v_seed_12 => (s_set (i := 1) sc__law_name.nd rfl (lo vl__law_name 1 rfl) (e_op op_addA l_add (e_var (i := 1) rfl (vi vl__law_name 1 rfl) rfl (dbg1 dl__law_name 1 rfl) (dbg2 dl__law_name 1 rfl)) (e_item e_str (e_op op_mod l_mod (e_var (i := 0) rfl (vi vl__law_name 0 rfl) rfl (dbg1 dl__law_name 0 rfl) (dbg2 dl__law_name 0 rfl)) e_int))) le_nil (fun v_name_19 => (s_nil (s := (v_seed_12, v_name_19)) (le_s (le_s (le_n le_nil)))))))))) (fun s26 => (s_one (s_ret (e_var (i := 1) rfl (vi vl__law_name 1 rfl) rfl (dbg1 dl__law_name 1 rfl) (dbg2 dl__law_name 1 rfl)) le_nil)))))), rfl⟩
theorem sc__law_entry : FnScope ["cell", "seed", "amount", "steps", "k", "rest", "weather"] ["cell"] (defScope st__law_entry) := ⟨rfl, rfl, rfl, by decide +kernel, rfl, by decide +kernel, by decide +kernel⟩
theorem vl__law_entry : ((["cell", "seed", "amount", "steps", "k", "rest", "weather"] : List Str).all (locB (defScope st__law_entry))) = true := by decide +kernel
theorem dl__law_entry : ((["cell", "seed", "amount", "steps", "k", "rest", "weather"] : List Str).all dbgB) = true := by decide +kernel
theorem gls__law_entry : ((["range", "_law_name", "tuple"] : List Str).all (glB (defScope st__law_entry))) = true := by decide +kernel
theorem ok__law_entry (D0 : FunD K "_law_entry" "_law_entry" (defArgs st__law_entry) (defBody st__law_entry) (defScope st__law_entry) [] [] f fd) (T : Tx K mg ca) (c__law_name : Cal P w K mg base "_law_name" 1 (spD K ca (F1 m__law_name)) []) :
    FnOk P w K mg base (L2.CX P w) 2 f fd ["cell"] (spD K ca (F1 m__law_entry)) := by
  refine def_D D0 sc__law_entry (fun ds h => ?_) (fun cdv A outer s H E ds hr nb => ?_)
  · obtain ⟨v_cell, rfl⟩ := F1_inv h
    rfl
  · obtain ⟨v_cell, rfl⟩ := F1_inv nb
    have tk : Takes (cxOf (L2.CX P w) P w K mg base ["cell", "seed", "amount", "steps", "k", "rest", "weather"] "_law_entry" (defScope st__law_entry) f cdv A outer s H E) (WD E) := takes_of rfl rfl rfl rfl
    have po : PassesOwn (model P w) (cxOf (L2.CX P w) P w K mg base ["cell", "seed", "amount", "steps", "k", "rest", "weather"] "_law_entry" (defScope st__law_entry) f cdv A outer s H E).A (cxOf (L2.CX P w) P w K mg base ["cell", "seed", "amount", "steps", "k", "rest", "weather"] "_law_entry" (defScope st__law_entry) f cdv A outer s H E).env (cxOf (L2.CX P w) P w K mg base ["cell", "seed", "amount", "steps", "k", "rest", "weather"] "_law_entry" (defScope st__law_entry) f cdv A outer s H E).xe := passes_of rfl
    exact ⟨Unit, fun _ => [], _, s_weak (ρ' := [some (.d v_cell), none, none, none, none, none, none]) (le_refl _) (s_set (i := 1) sc__law_entry.nd rfl (lo vl__law_entry 1 rfl) (e_op op_mod l_mod (e_op op_fdivW l_fdiv (e_var (i := 0) rfl (vi vl__law_entry 0 rfl) rfl (dbg1 dl__law_entry 0 rfl) (dbg2 dl__law_entry 0 rfl)) e_int) e_int) le_nil (fun v_seed_1 => (s_set (i := 2) sc__law_entry.nd rfl (lo vl__law_entry 2 rfl) (e_op op_mod l_mod (e_op op_fdivW l_fdiv (e_var (i := 0) rfl (vi vl__law_entry 0 rfl) rfl (dbg1 dl__law_entry 0 rfl) (dbg2 dl__law_entry 0 rfl)) e_int) e_int) le_nil (fun v_amount_6 => (s_seq (emb' := (fun (s : D) => [some (.d v_cell), some (.d v_seed_1), some (.d s), none, none, none, none])) (s_if (t_cmp (op_eqA hr.units) l_eq (e_op op_mod l_mod (e_var (i := 1) rfl (vi vl__law_entry 1 rfl) rfl (dbg1 dl__law_entry 1 rfl) (dbg2 dl__law_entry 1 rfl)) e_int) e_int (nomark _)) le_nil (s_set (i := 2) sc__law_entry.nd rfl (lo vl__law_entry 2 rfl) e_int le_nil (fun v_amount_16 => (s_nil (s := v_amount_16) (le_s (le_s (le_s (le_n (le_n (le_n (le_n le_nil)))))))))) (s_nil (s := v_amount_6) (le_s (le_s (le_s (le_n (le_n (le_n (le_n le_nil))))))))) (fun s17 => (s_ifx (nE := fun e : Empty => e.elim) (t_cmp (op_eqA hr.units) l_eq (e_op op_mod l_mod (e_var (i := 0) rfl (vi vl__law_entry 0 rfl) rfl (dbg1 dl__law_entry 0 rfl) (dbg2 dl__law_entry 0 rfl)) e_int) e_int (nomark _)) le_nil (s_setL (i := 3) sc__law_entry.nd rfl (lo vl__law_entry 3 rfl) (e_lst a_nil) le_nil (fun v_steps_23 => (s_seq (emb' := (fun (s : D × List D) => [some (.d v_cell), some (.d s.1), some (.d s17), some (.ol none s.2), none, none, none])) (s_forN (emb := (fun (s : D × List D) => [some (.d v_cell), some (.d s.1), some (.d s17), some (.ol none s.2), none, none, none])) (s0 := (v_seed_1, v_steps_23)) (i := 4) po rfl (i_range1 (gl gls__law_entry 0 rfl) T.n_range (a_cons (e_op op_addA l_add e_int (e_op op_mod l_mod (e_var (i := 1) rfl (vi vl__law_entry 1 rfl) rfl (dbg1 dl__law_entry 1 rfl) (dbg2 dl__law_entry 1 rfl)) e_int)) a_nil)) sc__law_entry.nd rfl (lo vl__law_entry 4 rfl) le_nil (le_s (le_s (le_s (le_s (le_n (le_n (le_n le_nil))))))) (fun s32 v_k_34 => (s_set (i := 1) sc__law_entry.nd rfl (lo vl__law_entry 1 rfl) (e_op op_mod l_mod (e_op op_mulA l_mul (e_op op_addA l_add (e_var (i := 1) rfl (vi vl__law_entry 1 rfl) rfl (dbg1 dl__law_entry 1 rfl) (dbg2 dl__law_entry 1 rfl)) e_int) e_int) e_int) le_nil (fun v_seed_35 => (s_append (i := 3) rfl (vi vl__law_entry 3 rfl) (dbg1 dl__law_entry 3 rfl) (dbg2 dl__law_entry 3 rfl) rfl (e_tup (a_cons (e_call c__law_name (hr.mono (by decide)) (gl gls__law_entry 1 rfl) (passAt tk) (a_cons (e_var (i := 1) rfl (vi vl__law_entry 1 rfl) rfl (dbg1 dl__law_entry 1 rfl) (dbg2 dl__law_entry 1 rfl)) a_nil)) (a_cons (e_item (e_pub (e_lst (a_cons e_str (a_cons e_str a_nil)))) (e_op op_mod l_mod (e_op op_fdivW l_fdiv (e_var (i := 1) rfl (vi vl__law_entry 1 rfl) rfl (dbg1 dl__law_entry 1 rfl) (dbg2 dl__law_entry 1 rfl)) e_int) e_int)) a_nil))) le_nil (fun v_steps_64 => (s_nil (s := (v_seed_35, v_steps_64)) (le_s (le_s (le_s (le_s (le_n (le_n (le_n le_nil)))))))))))))) (fun s65 => (s_pub (i := 3) rfl (s_one (s_ret (e_tup (a_cons e_str (a_cons (e_call c__law_name (hr.mono (by decide)) (gl gls__law_entry 1 rfl) (passAt tk) (a_cons (e_op op_mod l_mod (e_op op_fdivW l_fdiv (e_var (i := 0) rfl (vi vl__law_entry 0 rfl) rfl (dbg1 dl__law_entry 0 rfl) (dbg2 dl__law_entry 0 rfl)) e_int) e_int) a_nil)) (a_cons (e_call c__law_name (hr.mono (by decide)) (gl gls__law_entry 1 rfl) (passAt tk) (a_cons (e_op op_mod l_mod (e_op op_fdivW l_fdiv (e_var (i := 0) rfl (vi vl__law_entry 0 rfl) rfl (dbg1 dl__law_entry 0 rfl) (dbg2 dl__law_entry 0 rfl)) e_int) e_int) a_nil)) (a_cons (e_callT call_tuple_of l_toTup (gl gls__law_entry 2 rfl) T.n_tuple b_tuple (a_cons (e_var (i := 3) rfl (vi vl__law_entry 3 rfl) rfl (dbg1 dl__law_entry 3 rfl) (dbg2 dl__law_entry 3 rfl)) a_nil)) a_nil))))) le_nil))))))) (s_ifx (nE := fun e : Empty => e.elim) (t_cmp (op_eqA hr.units) l_eq (e_op op_mod l_mod (e_var (i := 0) rfl (vi vl__law_entry 0 rfl) rfl (dbg1 dl__law_entry 0 rfl) (dbg2 dl__law_entry 0 rfl)) e_int) e_int (nomark _)) le_nil (s_set (i := 5) sc__law_entry.nd rfl (lo vl__law_entry 5 rfl) (e_op op_mod l_mod (e_op op_fdivW l_fdiv (e_var (i := 0) rfl (vi vl__law_entry 0 rfl) rfl (dbg1 dl__law_entry 0 rfl) (dbg2 dl__law_entry 0 rfl)) e_int) (e_op op_pow l_pow e_int e_int)) le_nil (fun v_rest_99 => (s_setL (i := 6) sc__law_entry.nd rfl (lo vl__law_entry 6 rfl) (e_lst a_nil) le_nil (fun v_weather_106 => (s_seq (emb' := (fun (s : List D × D) => [some (.d v_cell), some (.d v_seed_1), some (.d s17), none, none, some (.d s.2), some (.ol none s.1)])) (s_forN (emb := (fun (s : List D × D) => [some (.d v_cell), some (.d v_seed_1), some (.d s17), none, none, some (.d s.2), some (.ol none s.1)])) (s0 := (v_weather_106, v_rest_99)) (i := 4) po rfl (i_range1 (gl gls__law_entry 0 rfl) T.n_range (a_cons (e_op op_addA l_add e_int (e_op op_mod l_mod (e_var (i := 1) rfl (vi vl__law_entry 1 rfl) rfl (dbg1 dl__law_entry 1 rfl) (dbg2 dl__law_entry 1 rfl)) e_int)) a_nil)) sc__law_entry.nd rfl (lo vl__law_entry 4 rfl) le_nil (le_s (le_s (le_s (le_n (le_n (le_s (le_s le_nil))))))) (fun s115 v_k_117 => (s_append (i := 6) rfl (vi vl__law_entry 6 rfl) (dbg1 dl__law_entry 6 rfl) (dbg2 dl__law_entry 6 rfl) rfl (e_tup (a_cons (e_op op_mod l_mod (e_var (i := 5) rfl (vi vl__law_entry 5 rfl) rfl (dbg1 dl__law_entry 5 rfl) (dbg2 dl__law_entry 5 rfl)) (e_op op_pow l_pow e_int e_int)) (a_cons (e_op op_mod l_mod (e_op op_fdivW l_fdiv (e_var (i := 5) rfl (vi vl__law_entry 5 rfl) rfl (dbg1 dl__law_entry 5 rfl) (dbg2 dl__law_entry 5 rfl)) e_int) (e_op op_pow l_pow e_int e_int)) a_nil))) le_nil (fun v_weather_135 => (s_set (i := 5) sc__law_entry.nd rfl (lo vl__law_entry 5 rfl) (e_op op_addA l_add (e_op op_fdivW l_fdiv (e_var (i := 5) rfl (vi vl__law_entry 5 rfl) rfl (dbg1 dl__law_entry 5 rfl) (dbg2 dl__law_entry 5 rfl)) e_int) (e_op op_mulA l_mul (e_op op_addA l_add (e_var (i := 4) rfl (vi vl__law_entry 4 rfl) rfl (dbg1 dl__law_entry 4 rfl) (dbg2 dl__law_entry 4 rfl)) e_int) (e_var (i := 2) rfl (vi vl__law_entry 2 rfl) rfl (dbg1 dl__law_entry 2 rfl) (dbg2 dl__law_entry 2 rfl)))) le_nil (fun v_rest_136 => (s_nil (s := (v_weather_135, v_rest_136)) (le_s (le_s (le_s (le_n (le_n (le_s (le_s le_nil)))))))))))))) (fun s145 => (s_pub (i := 6) rfl (s_one (s_ret (e_tup (a_cons e_str (a_cons (e_callT call_tuple_of l_toTup (gl gls__law_entry 2 rfl) T.n_tuple b_tuple (a_cons (e_var (i := 6) rfl (vi vl__law_entry 6 rfl) rfl (dbg1 dl__law_entry 6 rfl) (dbg2 dl__law_entry 6 rfl)) a_nil)) a_nil))) le_nil))))))))) (s_ifx (nE := fun e : Empty => e.elim) (t_cmp op_lt l_lt (e_op op_mod l_mod (e_var (i := 0) rfl (vi vl__law_entry 0 rfl) rfl (dbg1 dl__law_entry 0 rfl) (dbg2 dl__law_entry 0 rfl)) e_int) e_int (nomark _)) le_nil (s_one (s_ret (e_tup (a_cons (e_item (e_pub (e_lst (a_cons e_str (a_cons e_str (a_cons e_str a_nil))))) (e_op op_mod l_mod (e_var (i := 0) rfl (vi vl__law_entry 0 rfl) rfl (dbg1 dl__law_entry 0 rfl) (dbg2 dl__law_entry 0 rfl)) e_int)) (a_cons (e_call c__law_name (hr.mono (by decide)) (gl gls__law_entry 1 rfl) (passAt tk) (a_cons (e_var (i := 1) rfl (vi vl__law_entry 1 rfl) rfl (dbg1 dl__law_entry 1 rfl) (dbg2 dl__law_entry 1 rfl)) a_nil)) a_nil))) le_nil)) (s_one (s_ret (e_tup (a_cons (e_item (e_pub (e_lst (a_cons e_str (a_cons e_str a_nil)))) (e_op op_sub l_sub (e_op op_mod l_mod (e_var (i := 0) rfl (vi vl__law_entry 0 rfl) rfl (dbg1 dl__law_entry 0 rfl) (dbg2 dl__law_entry 0 rfl)) e_int) e_int)) (a_cons (e_call c__law_name (hr.mono (by decide)) (gl gls__law_entry 1 rfl) (passAt tk) (a_cons (e_op op_mod l_mod (e_op op_fdivW l_fdiv (e_var (i := 0) rfl (vi vl__law_entry 0 rfl) rfl (dbg1 dl__law_entry 0 rfl) (dbg2 dl__law_entry 0 rfl)) e_int) e_int) a_nil)) (a_cons (e_var (i := 2) rfl (vi vl__law_entry 2 rfl) rfl (dbg1 dl__law_entry 2 rfl) (dbg2 dl__law_entry 2 rfl)) a_nil)))) le_nil))))))))))), rfl⟩
theorem sc__law_words : FnScope ["entry", "words", "part", "pair"] ["entry"] (defScope st__law_words) := ⟨rfl, rfl, rfl, by decide +kernel, rfl, by decide +kernel, by decide +kernel⟩
theorem vl__law_words : ((["entry", "words", "part", "pair"] : List Str).all (locB (defScope st__law_words))) = true := by decide +kernel
theorem dl__law_words : ((["entry", "words", "part", "pair"] : List Str).all dbgB) = true := by decide +kernel
theorem gls__law_words : ((["isinstance", "tuple", "str"] : List Str).all (glB (defScope st__law_words))) = true := by decide +kernel
theorem ok__law_words (D0 : FunD K "_law_words" "_law_words" (defArgs st__law_words) (defBody st__law_words) (defScope st__law_words) [] [] f fd) (T : Tx K mg ca) :
    FnOk P w K mg base (L2.CX P w) 1 f fd ["entry"] (spD K ca (F1 m__law_words)) := by
  refine def_D D0 sc__law_words (fun ds h => ?_) (fun cdv A outer s H E ds hr nb => ?_)
  · obtain ⟨v_entry, rfl⟩ := F1_inv h
    rfl
  · obtain ⟨v_entry, rfl⟩ := F1_inv nb
    have tk : Takes (cxOf (L2.CX P w) P w K mg base ["entry", "words", "part", "pair"] "_law_words" (defScope st__law_words) f cdv A outer s H E) (WD E) := takes_of rfl rfl rfl rfl
    have po : PassesOwn (model P w) (cxOf (L2.CX P w) P w K mg base ["entry", "words", "part", "pair"] "_law_words" (defScope st__law_words) f cdv A outer s H E).A (cxOf (L2.CX P w) P w K mg base ["entry", "words", "part", "pair"] "_law_words" (defScope st__law_words) f cdv A outer s H E).env (cxOf (L2.CX P w) P w K mg base ["entry", "words", "part", "pair"] "_law_words" (defScope st__law_words) f cdv A outer s H E).xe := passes_of rfl
    exact ⟨Unit, fun _ => [], _, s_weak (ρ' := [some (.d v_entry), none, none, none]) (le_refl _) (s_setL (i := 1) sc__law_words.nd rfl (lo vl__law_words 1 rfl) (e_lst a_nil) le_nil (fun v_words_1 => (s_seq (emb' := (fun (s : List D) => [some (.d v_entry), some (.ol none s), none, none])) (s_forN (emb := (fun (s : List D) => [some (.d v_entry), some (.ol none s), none, none])) (s0 := v_words_1) (i := 2) po rfl (i_seq (e_var (i := 0) rfl (vi vl__law_words 0 rfl) rfl (dbg1 dl__law_words 0 rfl) (dbg2 dl__law_words 0 rfl))) sc__law_words.nd rfl (lo vl__law_words 2 rfl) le_nil (le_s (le_s (le_n (le_n le_nil)))) (fun s4 v_part_6 => (s_one (s_if (t_truth (e_isT (e_var (i := 2) rfl (vi vl__law_words 2 rfl) rfl (dbg1 dl__law_words 2 rfl) (dbg2 dl__law_words 2 rfl)) (gl gls__law_words 0 rfl) T.n_isinstance b_isinstance (gl gls__law_words 1 rfl) T.n_tuple b_tuple)) le_nil (s_seq (emb' := (fun (s : List D) => [some (.d v_entry), some (.ol none s), some (.d v_part_6), none])) (s_forN (emb := (fun (s : List D) => [some (.d v_entry), some (.ol none s), some (.d v_part_6), none])) (s0 := s4) (i := 3) po rfl (i_seq (e_var (i := 2) rfl (vi vl__law_words 2 rfl) rfl (dbg1 dl__law_words 2 rfl) (dbg2 dl__law_words 2 rfl))) sc__law_words.nd rfl (lo vl__law_words 3 rfl) le_nil (le_s (le_s (le_s (le_n le_nil)))) (fun s10 v_pair_12 => (s_append (i := 1) rfl (vi vl__law_words 1 rfl) (dbg1 dl__law_words 1 rfl) (dbg2 dl__law_words 1 rfl) rfl (e_callT call_strA l_toStrA (gl gls__law_words 2 rfl) T.n_str b_str (a_cons (e_item (e_var (i := 3) rfl (vi vl__law_words 3 rfl) rfl (dbg1 dl__law_words 3 rfl) (dbg2 dl__law_words 3 rfl)) e_int) a_nil)) le_nil (fun v_words_19 => (s_append (i := 1) rfl (vi vl__law_words 1 rfl) (dbg1 dl__law_words 1 rfl) (dbg2 dl__law_words 1 rfl) rfl (e_callT call_strA l_toStrA (gl gls__law_words 2 rfl) T.n_str b_str (a_cons (e_item (e_var (i := 3) rfl (vi vl__law_words 3 rfl) rfl (dbg1 dl__law_words 3 rfl) (dbg2 dl__law_words 3 rfl)) e_int) a_nil)) le_nil (fun v_words_26 => (s_nil (s := v_words_26) (le_s (le_s (le_s (le_n le_nil))))))))))) (fun s27 => (s_nil (s := s27) (le_s (le_s (le_n (le_n le_nil))))))) (s_append (i := 1) rfl (vi vl__law_words 1 rfl) (dbg1 dl__law_words 1 rfl) (dbg2 dl__law_words 1 rfl) rfl (e_callT call_strA l_toStrA (gl gls__law_words 2 rfl) T.n_str b_str (a_cons (e_var (i := 2) rfl (vi vl__law_words 2 rfl) rfl (dbg1 dl__law_words 2 rfl) (dbg2 dl__law_words 2 rfl)) a_nil)) le_nil (fun v_words_32 => (s_nil (s := v_words_32) (le_s (le_s (le_n (le_n le_nil))))))))))) (fun s33 => (s_pub (i := 1) rfl (s_one (s_ret (e_var (i := 1) rfl (vi vl__law_words 1 rfl) rfl (dbg1 dl__law_words 1 rfl) (dbg2 dl__law_words 1 rfl)) le_nil))))))), rfl⟩
theorem sc__law_put : FnScope ["words", "at", "word"] ["words", "at", "word"] (defScope st__law_put) := ⟨rfl, rfl, rfl, by decide +kernel, rfl, by decide +kernel, by decide +kernel⟩
theorem vl__law_put : ((["words", "at", "word"] : List Str).all (locB (defScope st__law_put))) = true := by decide +kernel
theorem dl__law_put : ((["words", "at", "word"] : List Str).all dbgB) = true := by decide +kernel
theorem gls__law_put : (([] : List Str).all (glB (defScope st__law_put))) = true := by decide +kernel
theorem ok__law_put (D0 : FunD K "_law_put" "_law_put" (defArgs st__law_put) (defBody st__law_put) (defScope st__law_put) [] [] f fd) (T : Tx K mg ca) :
    FnOk P w K mg base (L2.CX P w) 1 f fd ["words", "at", "word"] (spD K ca (F3 m__law_put)) := by
  refine def_D D0 sc__law_put (fun ds h => ?_) (fun cdv A outer s H E ds hr nb => ?_)
  · obtain ⟨v_words, v_at, v_word, rfl⟩ := F3_inv h
    rfl
  · obtain ⟨v_words, v_at, v_word, rfl⟩ := F3_inv nb
    have tk : Takes (cxOf (L2.CX P w) P w K mg base ["words", "at", "word"] "_law_put" (defScope st__law_put) f cdv A outer s H E) (WD E) := takes_of rfl rfl rfl rfl
    have po : PassesOwn (model P w) (cxOf (L2.CX P w) P w K mg base ["words", "at", "word"] "_law_put" (defScope st__law_put) f cdv A outer s H E).A (cxOf (L2.CX P w) P w K mg base ["words", "at", "word"] "_law_put" (defScope st__law_put) f cdv A outer s H E).env (cxOf (L2.CX P w) P w K mg base ["words", "at", "word"] "_law_put" (defScope st__law_put) f cdv A outer s H E).xe := passes_of rfl
    exact ⟨Unit, fun _ => [], _, s_weak (ρ' := [some (.d v_words), some (.d v_at), some (.d v_word)]) (le_refl _) (s_one (s_ret (e_op op_addA l_add (e_op op_addA l_add (e_slice (e_var (i := 0) rfl (vi vl__law_put 0 rfl) rfl (dbg1 dl__law_put 0 rfl) (dbg2 dl__law_put 0 rfl)) p_none (p_some (e_var (i := 1) rfl (vi vl__law_put 1 rfl) rfl (dbg1 dl__law_put 1 rfl) (dbg2 dl__law_put 1 rfl)))) (e_pub (e_lst (a_cons (e_var (i := 2) rfl (vi vl__law_put 2 rfl) rfl (dbg1 dl__law_put 2 rfl) (dbg2 dl__law_put 2 rfl)) a_nil)))) (e_slice (e_var (i := 0) rfl (vi vl__law_put 0 rfl) rfl (dbg1 dl__law_put 0 rfl) (dbg2 dl__law_put 0 rfl)) (p_some (e_op op_addA l_add (e_var (i := 1) rfl (vi vl__law_put 1 rfl) rfl (dbg1 dl__law_put 1 rfl) (dbg2 dl__law_put 1 rfl)) e_int)) p_none)) le_nil)), rfl⟩
theorem sc__law_bad_words : FnScope ["words", "way", "at", "word", "menu", "pair", "many"] ["words", "way", "at"] (defScope st__law_bad_words) := ⟨rfl, rfl, rfl, by decide +kernel, rfl, by decide +kernel, by decide +kernel⟩
theorem vl__law_bad_words : ((["words", "way", "at", "word", "menu", "pair", "many"] : List Str).all (locB (defScope st__law_bad_words))) = true := by decide +kernel
theorem dl__law_bad_words : ((["words", "way", "at", "word", "menu", "pair", "many"] : List Str).all dbgB) = true := by decide +kernel
theorem gls__law_bad_words : ((["_law_put"] : List Str).all (glB (defScope st__law_bad_words))) = true := by decide +kernel
theorem ok__law_bad_words (D0 : FunD K "_law_bad_words" "_law_bad_words" (defArgs st__law_bad_words) (defBody st__law_bad_words) (defScope st__law_bad_words) [] [] f fd) (T : Tx K mg ca) (c__law_put : Cal P w K mg base "_law_put" 1 (spD K ca (F3 m__law_put)) []) :
    FnOk P w K mg base (L2.CX P w) 2 f fd ["words", "way", "at"] (spD K ca (F3 m__law_bad_words)) := by
  refine def_D D0 sc__law_bad_words (fun ds h => ?_) (fun cdv A outer s H E ds hr nb => ?_)
  · obtain ⟨v_words, v_way, v_at, rfl⟩ := F3_inv h
    rfl
  · obtain ⟨v_words, v_way, v_at, rfl⟩ := F3_inv nb
    have tk : Takes (cxOf (L2.CX P w) P w K mg base ["words", "way", "at", "word", "menu", "pair", "many"] "_law_bad_words" (defScope st__law_bad_words) f cdv A outer s H E) (WD E) := takes_of rfl rfl rfl rfl
    have po : PassesOwn (model P w) (cxOf (L2.CX P w) P w K mg base ["words", "way", "at", "word", "menu", "pair", "many"] "_law_bad_words" (defScope st__law_bad_words) f cdv A outer s H E).A (cxOf (L2.CX P w) P w K mg base ["words", "way", "at", "word", "menu", "pair", "many"] "_law_bad_words" (defScope st__law_bad_words) f cdv A outer s H E).env (cxOf (L2.CX P w) P w K mg base ["words", "way", "at", "word", "menu", "pair", "many"] "_law_bad_words" (defScope st__law_bad_words) f cdv A outer s H E).xe := passes_of rfl
    exact ⟨Unit, fun _ => [], _, s_weak (ρ' := [some (.d v_words), some (.d v_way), some (.d v_at), none, none, none, none]) (le_refl _) (s_set (i := 3) sc__law_bad_words.nd rfl (lo vl__law_bad_words 3 rfl) (e_item (e_var (i := 0) rfl (vi vl__law_bad_words 0 rfl) rfl (dbg1 dl__law_bad_words 0 rfl) (dbg2 dl__law_bad_words 0 rfl)) (e_var (i := 2) rfl (vi vl__law_bad_words 2 rfl) rfl (dbg1 dl__law_bad_words 2 rfl) (dbg2 dl__law_bad_words 2 rfl))) le_nil (fun v_word_1 => (s_ifx (nE := fun e : Empty => e.elim) (t_cmp (op_eqA hr.units) l_eq (e_var (i := 1) rfl (vi vl__law_bad_words 1 rfl) rfl (dbg1 dl__law_bad_words 1 rfl) (dbg2 dl__law_bad_words 1 rfl)) e_int (nomark _)) le_nil (s_one (s_ret (e_op op_addA l_add (e_var (i := 0) rfl (vi vl__law_bad_words 0 rfl) rfl (dbg1 dl__law_bad_words 0 rfl) (dbg2 dl__law_bad_words 0 rfl)) (e_pub (e_lst (a_cons e_str a_nil)))) le_nil)) (s_ifx (nE := fun e : Empty => e.elim) (t_cmp (op_eqA hr.units) l_eq (e_var (i := 1) rfl (vi vl__law_bad_words 1 rfl) rfl (dbg1 dl__law_bad_words 1 rfl) (dbg2 dl__law_bad_words 1 rfl)) e_int (nomark _)) le_nil (s_one (s_ret (e_slice (e_var (i := 0) rfl (vi vl__law_bad_words 0 rfl) rfl (dbg1 dl__law_bad_words 0 rfl) (dbg2 dl__law_bad_words 0 rfl)) p_none (p_some (e_un un_neg l_neg e_int))) le_nil)) (s_ifx (nE := fun e : Empty => e.elim) (t_cmp (op_eqA hr.units) l_eq (e_var (i := 1) rfl (vi vl__law_bad_words 1 rfl) rfl (dbg1 dl__law_bad_words 1 rfl) (dbg2 dl__law_bad_words 1 rfl)) e_int (nomark _)) le_nil (s_one (s_ret (e_op op_addA l_add (e_op op_addA l_add (e_slice (e_var (i := 0) rfl (vi vl__law_bad_words 0 rfl) rfl (dbg1 dl__law_bad_words 0 rfl) (dbg2 dl__law_bad_words 0 rfl)) p_none (p_some (e_op op_sub l_sub (e_var (i := 2) rfl (vi vl__law_bad_words 2 rfl) rfl (dbg1 dl__law_bad_words 2 rfl) (dbg2 dl__law_bad_words 2 rfl)) e_int))) (e_pub (e_lst (a_cons e_str a_nil)))) (e_slice (e_var (i := 0) rfl (vi vl__law_bad_words 0 rfl) rfl (dbg1 dl__law_bad_words 0 rfl) (dbg2 dl__law_bad_words 0 rfl)) (p_some (e_op op_sub l_sub (e_var (i := 2) rfl (vi vl__law_bad_words 2 rfl) rfl (dbg1 dl__law_bad_words 2 rfl) (dbg2 dl__law_bad_words 2 rfl)) e_int)) p_none)) le_nil)) (s_ifx (nE := fun e : Empty => e.elim) (t_cmp (op_eqA hr.units) l_eq (e_var (i := 1) rfl (vi vl__law_bad_words 1 rfl) rfl (dbg1 dl__law_bad_words 1 rfl) (dbg2 dl__law_bad_words 1 rfl)) e_int (nomark _)) le_nil (s_one (s_ret (e_op op_addA l_add (e_pub (e_lst (a_cons (e_upper (e_item (e_var (i := 0) rfl (vi vl__law_bad_words 0 rfl) rfl (dbg1 dl__law_bad_words 0 rfl) (dbg2 dl__law_bad_words 0 rfl)) e_int)) a_nil))) (e_slice (e_var (i := 0) rfl (vi vl__law_bad_words 0 rfl) rfl (dbg1 dl__law_bad_words 0 rfl) (dbg2 dl__law_bad_words 0 rfl)) (p_some e_int) p_none)) le_nil)) (s_ifx (nE := fun e : Empty => e.elim) (t_cmp (op_eqA hr.units) l_eq (e_var (i := 1) rfl (vi vl__law_bad_words 1 rfl) rfl (dbg1 dl__law_bad_words 1 rfl) (dbg2 dl__law_bad_words 1 rfl)) e_int (nomark _)) le_nil (s_one (s_ret (e_op op_addA l_add (e_pub (e_lst (a_cons (e_op op_addA l_add (e_item (e_var (i := 0) rfl (vi vl__law_bad_words 0 rfl) rfl (dbg1 dl__law_bad_words 0 rfl) (dbg2 dl__law_bad_words 0 rfl)) e_int) e_str) a_nil))) (e_slice (e_var (i := 0) rfl (vi vl__law_bad_words 0 rfl) rfl (dbg1 dl__law_bad_words 0 rfl) (dbg2 dl__law_bad_words 0 rfl)) (p_some e_int) p_none)) le_nil)) (s_ifx (nE := fun e : Empty => e.elim) (t_cmp op_lt l_lt (e_var (i := 1) rfl (vi vl__law_bad_words 1 rfl) rfl (dbg1 dl__law_bad_words 1 rfl) (dbg2 dl__law_bad_words 1 rfl)) e_int (nomark _)) le_nil (s_set (i := 4) sc__law_bad_words.nd rfl (lo vl__law_bad_words 4 rfl) (e_pub (e_lst (a_cons (e_op op_addA l_add (e_var (i := 3) rfl (vi vl__law_bad_words 3 rfl) rfl (dbg1 dl__law_bad_words 3 rfl) (dbg2 dl__law_bad_words 3 rfl)) e_str) (a_cons e_str (a_cons (e_op op_addA l_add e_str (e_var (i := 3) rfl (vi vl__law_bad_words 3 rfl) rfl (dbg1 dl__law_bad_words 3 rfl) (dbg2 dl__law_bad_words 3 rfl))) (a_cons (e_op op_addA l_add (e_var (i := 3) rfl (vi vl__law_bad_words 3 rfl) rfl (dbg1 dl__law_bad_words 3 rfl) (dbg2 dl__law_bad_words 3 rfl)) e_str) (a_cons (e_op op_addA l_add (e_var (i := 3) rfl (vi vl__law_bad_words 3 rfl) rfl (dbg1 dl__law_bad_words 3 rfl) (dbg2 dl__law_bad_words 3 rfl)) e_str) (a_cons (e_item (e_pub (e_lst (a_cons e_str (a_cons e_str (a_cons e_str a_nil))))) (e_op op_mod l_mod (e_var (i := 2) rfl (vi vl__law_bad_words 2 rfl) rfl (dbg1 dl__law_bad_words 2 rfl) (dbg2 dl__law_bad_words 2 rfl)) e_int)) a_nil)))))))) le_nil (fun v_menu_80 => (s_one (s_ret (e_call c__law_put (hr.mono (by decide)) (gl gls__law_bad_words 0 rfl) (passAt tk) (a_cons (e_var (i := 0) rfl (vi vl__law_bad_words 0 rfl) rfl (dbg1 dl__law_bad_words 0 rfl) (dbg2 dl__law_bad_words 0 rfl)) (a_cons (e_var (i := 2) rfl (vi vl__law_bad_words 2 rfl) rfl (dbg1 dl__law_bad_words 2 rfl) (dbg2 dl__law_bad_words 2 rfl)) (a_cons (e_item (e_var (i := 4) rfl (vi vl__law_bad_words 4 rfl) rfl (dbg1 dl__law_bad_words 4 rfl) (dbg2 dl__law_bad_words 4 rfl)) (e_op op_sub l_sub (e_var (i := 1) rfl (vi vl__law_bad_words 1 rfl) rfl (dbg1 dl__law_bad_words 1 rfl) (dbg2 dl__law_bad_words 1 rfl)) e_int)) a_nil)))) le_nil)))) (s_ifx (nE := fun e : Empty => e.elim) (t_cmp (op_eqA hr.units) l_eq (e_var (i := 1) rfl (vi vl__law_bad_words 1 rfl) rfl (dbg1 dl__law_bad_words 1 rfl) (dbg2 dl__law_bad_words 1 rfl)) e_int (nomark _)) le_nil (s_setL (i := 5) sc__law_bad_words.nd rfl (lo vl__law_bad_words 5 rfl) (e_lst (a_cons e_str (a_cons e_str a_nil))) le_nil (fun v_pair_130 => (s_seq (emb' := (fun (s : List D) => [some (.d v_words), some (.d v_way), some (.d v_at), some (.d v_word_1), none, some (.ol none s), none])) (s_if (t_cmp (op_eqA hr.units) l_eq (e_item (e_var (i := 0) rfl (vi vl__law_bad_words 0 rfl) rfl (dbg1 dl__law_bad_words 0 rfl) (dbg2 dl__law_bad_words 0 rfl)) e_int) e_str (nomark _)) le_nil (s_setL (i := 5) sc__law_bad_words.nd rfl (lo vl__law_bad_words 5 rfl) (e_lst (a_cons e_str (a_cons e_str a_nil))) le_nil (fun v_pair_141 => (s_nil (s := v_pair_141) (le_s (le_s (le_s (le_s (le_n (le_s (le_n le_nil)))))))))) (s_nil (s := v_pair_130) (le_s (le_s (le_s (le_s (le_n (le_s (le_n le_nil))))))))) (fun s147 => (s_set (i := 6) sc__law_bad_words.nd rfl (lo vl__law_bad_words 6 rfl) (e_dic (names := [Str.ofString "come", Str.ofString "night"]) (pd_cons e_int (pd_cons e_int pd_nil))) le_nil (fun v_many_148 => (s_one (s_ret (e_op op_addA l_add (e_slice (e_var (i := 0) rfl (vi vl__law_bad_words 0 rfl) rfl (dbg1 dl__law_bad_words 0 rfl) (dbg2 dl__law_bad_words 0 rfl)) p_none (p_some (e_getO hr.units (e_var (i := 6) rfl (vi vl__law_bad_words 6 rfl) rfl (dbg1 dl__law_bad_words 6 rfl) (dbg2 dl__law_bad_words 6 rfl)) (e_item (e_var (i := 0) rfl (vi vl__law_bad_words 0 rfl) rfl (dbg1 dl__law_bad_words 0 rfl) (dbg2 dl__law_bad_words 0 rfl)) e_int) e_int))) (e_pub (e_mulO (i := 5) rfl (vi vl__law_bad_words 5 rfl) rfl (dbg1 dl__law_bad_words 5 rfl) (dbg2 dl__law_bad_words 5 rfl)))) le_nil)))))))) (s_ifx (nE := fun e : Empty => e.elim) (t_cmp (op_eqA hr.units) l_eq (e_var (i := 1) rfl (vi vl__law_bad_words 1 rfl) rfl (dbg1 dl__law_bad_words 1 rfl) (dbg2 dl__law_bad_words 1 rfl)) e_int (nomark _)) le_nil (s_set (i := 6) sc__law_bad_words.nd rfl (lo vl__law_bad_words 6 rfl) (e_dic (names := [Str.ofString "come", Str.ofString "night"]) (pd_cons e_int (pd_cons e_int pd_nil))) le_nil (fun v_many_169 => (s_one (s_ret (e_slice (e_var (i := 0) rfl (vi vl__law_bad_words 0 rfl) rfl (dbg1 dl__law_bad_words 0 rfl) (dbg2 dl__law_bad_words 0 rfl)) p_none (p_some (e_getO hr.units (e_var (i := 6) rfl (vi vl__law_bad_words 6 rfl) rfl (dbg1 dl__law_bad_words 6 rfl) (dbg2 dl__law_bad_words 6 rfl)) (e_item (e_var (i := 0) rfl (vi vl__law_bad_words 0 rfl) rfl (dbg1 dl__law_bad_words 0 rfl) (dbg2 dl__law_bad_words 0 rfl)) e_int) e_int))) le_nil)))) (s_ifx (nE := fun e : Empty => e.elim) (t_cmp (op_eqA hr.units) l_eq (e_var (i := 1) rfl (vi vl__law_bad_words 1 rfl) rfl (dbg1 dl__law_bad_words 1 rfl) (dbg2 dl__law_bad_words 1 rfl)) e_int (nomark _)) le_nil (s_one (s_ret (e_pub (e_lst (a_cons (e_join e_str (e_var (i := 0) rfl (vi vl__law_bad_words 0 rfl) rfl (dbg1 dl__law_bad_words 0 rfl) (dbg2 dl__law_bad_words 0 rfl))) a_nil))) le_nil)) (s_ifx (nE := fun e : Empty => e.elim) (t_cmp op_gt l_gt (e_var (i := 1) rfl (vi vl__law_bad_words 1 rfl) rfl (dbg1 dl__law_bad_words 1 rfl) (dbg2 dl__law_bad_words 1 rfl)) e_int (nomark _)) le_nil (s_one (s_ret (e_pub (e_repE (e_lst (a_cons e_str a_nil)) (e_op op_sub l_sub (e_var (i := 1) rfl (vi vl__law_bad_words 1 rfl) rfl (dbg1 dl__law_bad_words 1 rfl) (dbg2 dl__law_bad_words 1 rfl)) e_int))) le_nil)) (s_one (s_ret (e_op op_addA l_add (e_var (i := 0) rfl (vi vl__law_bad_words 0 rfl) rfl (dbg1 dl__law_bad_words 0 rfl) (dbg2 dl__law_bad_words 0 rfl)) (e_pub (e_lst (a_cons e_str a_nil)))) le_nil)))))))))))))), rfl⟩
theorem sc__law_refused : FnScope ["row", "many", "e"] ["row", "many"] (defScope st__law_refused) := ⟨rfl, rfl, rfl, by decide +kernel, rfl, by decide +kernel, by decide +kernel⟩
theorem vl__law_refused : ((["row", "many", "e"] : List Str).all (locB (defScope st__law_refused))) = true := by decide +kernel
theorem ll__law_refused : ((["e"] : List Str).all (llB (defScope st__law_refused))) = true := by decide +kernel
theorem dl__law_refused : ((["row", "many", "e"] : List Str).all dbgB) = true := by decide +kernel
theorem gls__law_refused : ((["entries_of", "entry_of", "isinstance", "Torn", "Unknown", "BadNumber", "CanalError", "ValueError", "BadRow"] : List Str).all (glB (defScope st__law_refused))) = true := by decide +kernel
theorem ok__law_refused (D0 : FunD K "_law_refused" "_law_refused" (defArgs st__law_refused) (defBody st__law_refused) (defScope st__law_refused) [] [] f fd) (T : Tx K mg ca) (c_entries_of : Cal P w K mg base "entries_of" 6 (spD K ca (F1 m_entries_of)) []) (c_entry_of : Cal P w K mg base "entry_of" 5 (spD K ca (F1 m_entry_of)) []) :
    FnOk P w K mg base (L2.CX P w) 7 f fd ["row", "many"] (spD K ca (F2 m__law_refused)) := by
  refine def_D D0 sc__law_refused (fun ds h => ?_) (fun cdv A outer s H E ds hr nb => ?_)
  · obtain ⟨v_row, v_many, rfl⟩ := F2_inv h
    rfl
  · obtain ⟨v_row, v_many, rfl⟩ := F2_inv nb
    have tk : Takes (cxOf (L2.CX P w) P w K mg base ["row", "many", "e"] "_law_refused" (defScope st__law_refused) f cdv A outer s H E) (WD E) := takes_of rfl rfl rfl rfl
    have po : PassesOwn (model P w) (cxOf (L2.CX P w) P w K mg base ["row", "many", "e"] "_law_refused" (defScope st__law_refused) f cdv A outer s H E).A (cxOf (L2.CX P w) P w K mg base ["row", "many", "e"] "_law_refused" (defScope st__law_refused) f cdv A outer s H E).env (cxOf (L2.CX P w) P w K mg base ["row", "many", "e"] "_law_refused" (defScope st__law_refused) f cdv A outer s H E).xe := passes_of rfl
    exact ⟨Unit, fun _ => [], _, s_weak (ρ' := [some (.d v_row), some (.d v_many), none]) (le_refl _) (s_seq (emb' := (fun (s : Unit) => [some (.d v_row), some (.d v_many), none])) (s_tryAs (i := 2) (ρb := ⟨[some (.d v_row), some (.d v_many), none], fun _ => [some (.d v_row), some (.d v_many), none]⟩) rfl rfl sc__law_refused.nd rfl (lcl ll__law_refused 0 rfl) ⟨(gl gls__law_refused 8 rfl), by decide, Or.inl T.e_BadRow.g⟩ tk T.x_BadRow le_nil (fun _ => le_nil) (fun _ => rfl) (by first | exact fun _ => rfl | exact fun e => e.elim) (fun W1 pn1 xe1 tk1 po1 => (s_one (s_if (t_truth (e_var (i := 1) rfl (vi vl__law_refused 1 rfl) rfl (dbg1 dl__law_refused 1 rfl) (dbg2 dl__law_refused 1 rfl))) (le_s (le_s (le_n le_nil))) (s_drop (e_call c_entries_of (hr.mono (by decide)) (gl gls__law_refused 0 rfl) (passAt tk1) (a_cons (e_var (i := 0) rfl (vi vl__law_refused 0 rfl) rfl (dbg1 dl__law_refused 0 rfl) (dbg2 dl__law_refused 0 rfl)) a_nil)) (le_s (le_s (le_n le_nil))) (s_nil (s := ()) (le_s (le_s (le_n le_nil))))) (s_drop (e_call c_entry_of (hr.mono (by decide)) (gl gls__law_refused 1 rfl) (passAt tk1) (a_cons (e_var (i := 0) rfl (vi vl__law_refused 0 rfl) rfl (dbg1 dl__law_refused 0 rfl) (dbg2 dl__law_refused 0 rfl)) a_nil)) (le_s (le_s (le_n le_nil))) (s_nil (s := ()) (le_s (le_s (le_n le_nil)))))))) (fun j1 ae1 oe1 pn1 hz1 hf1 => (s_ifx (nE := fun e : Empty => e.elim) (PW.pt (w_or (t_truth (e_isE (j := j1) hz1 hf1 T.ie_Torn (i := 2) rfl (vi vl__law_refused 2 rfl) (dbg1 dl__law_refused 2 rfl) (dbg2 dl__law_refused 2 rfl) rfl (gl gls__law_refused 2 rfl) T.n_isinstance b_isinstance (c_own (gl gls__law_refused 3 rfl) T.e_Torn.g) (fun _ z => z))) (w_or (t_truth (e_isE (j := j1) hz1 hf1 T.ie_Unknown (i := 2) rfl (vi vl__law_refused 2 rfl) (dbg1 dl__law_refused 2 rfl) (dbg2 dl__law_refused 2 rfl) rfl (gl gls__law_refused 2 rfl) T.n_isinstance b_isinstance (c_own (gl gls__law_refused 4 rfl) T.e_Unknown.g) (fun _ z => z))) (w_or1 (t_truth (e_isE (j := j1) hz1 hf1 T.ie_BadNumber (i := 2) rfl (vi vl__law_refused 2 rfl) (dbg1 dl__law_refused 2 rfl) (dbg2 dl__law_refused 2 rfl) rfl (gl gls__law_refused 2 rfl) T.n_isinstance b_isinstance (c_own (gl gls__law_refused 5 rfl) T.e_BadNumber.g) (fun _ z => z))))))) le_nil (s_one (s_ret e_bl le_nil)) (s_one (s_ret (e_and (e_isE (j := j1) hz1 hf1 T.ie_CanalError (i := 2) rfl (vi vl__law_refused 2 rfl) (dbg1 dl__law_refused 2 rfl) (dbg2 dl__law_refused 2 rfl) rfl (gl gls__law_refused 2 rfl) T.n_isinstance b_isinstance (c_own (gl gls__law_refused 6 rfl) T.e_CanalError.g) (fun _ z => z)) (e_one (e_isE (j := j1) hz1 hf1 T.ie_ValueError (i := 2) rfl (vi vl__law_refused 2 rfl) (dbg1 dl__law_refused 2 rfl) (dbg2 dl__law_refused 2 rfl) rfl (gl gls__law_refused 2 rfl) T.n_isinstance b_isinstance (c_ty (gl gls__law_refused 7 rfl) T.n_ValueError b_ValueError) (fun _ z => z)))) le_nil)))) (fun j1 _ ae1 oe1 pn1 hz1 hf1 => (s_ifx (nE := fun e : Empty => e.elim) (PW.pt (w_or (t_truth (e_isE (j := j1) hz1 hf1 T.ie_Torn (i := 2) rfl (vi vl__law_refused 2 rfl) (dbg1 dl__law_refused 2 rfl) (dbg2 dl__law_refused 2 rfl) rfl (gl gls__law_refused 2 rfl) T.n_isinstance b_isinstance (c_own (gl gls__law_refused 3 rfl) T.e_Torn.g) (fun _ z => z))) (w_or (t_truth (e_isE (j := j1) hz1 hf1 T.ie_Unknown (i := 2) rfl (vi vl__law_refused 2 rfl) (dbg1 dl__law_refused 2 rfl) (dbg2 dl__law_refused 2 rfl) rfl (gl gls__law_refused 2 rfl) T.n_isinstance b_isinstance (c_own (gl gls__law_refused 4 rfl) T.e_Unknown.g) (fun _ z => z))) (w_or1 (t_truth (e_isE (j := j1) hz1 hf1 T.ie_BadNumber (i := 2) rfl (vi vl__law_refused 2 rfl) (dbg1 dl__law_refused 2 rfl) (dbg2 dl__law_refused 2 rfl) rfl (gl gls__law_refused 2 rfl) T.n_isinstance b_isinstance (c_own (gl gls__law_refused 5 rfl) T.e_BadNumber.g) (fun _ z => z))))))) le_nil (s_one (s_ret e_bl le_nil)) (s_one (s_ret (e_and (e_isE (j := j1) hz1 hf1 T.ie_CanalError (i := 2) rfl (vi vl__law_refused 2 rfl) (dbg1 dl__law_refused 2 rfl) (dbg2 dl__law_refused 2 rfl) rfl (gl gls__law_refused 2 rfl) T.n_isinstance b_isinstance (c_own (gl gls__law_refused 6 rfl) T.e_CanalError.g) (fun _ z => z)) (e_one (e_isE (j := j1) hz1 hf1 T.ie_ValueError (i := 2) rfl (vi vl__law_refused 2 rfl) (dbg1 dl__law_refused 2 rfl) (dbg2 dl__law_refused 2 rfl) rfl (gl gls__law_refused 2 rfl) T.n_isinstance b_isinstance (c_ty (gl gls__law_refused 7 rfl) T.n_ValueError b_ValueError) (fun _ z => z)))) le_nil))))) (fun s16 => (s_one (s_ret e_bl le_nil)))), rfl⟩
theorem sc_law : FnScope ["script", "first", "second", "words", "bad", "rows", "good", "cell", "row"] ["script"] (defScope st_law) := ⟨rfl, rfl, rfl, by decide +kernel, rfl, by decide +kernel, by decide +kernel⟩
theorem vl_law : ((["script", "first", "second", "words", "bad", "rows", "good"] : List Str).all (locB (defScope st_law))) = true := by decide +kernel
theorem ll_law : ((["rows"] : List Str).all (llB (defScope st_law))) = true := by decide +kernel
theorem dl_law : ((["script", "first", "second", "words", "bad", "rows", "good"] : List Str).all dbgB) = true := by decide +kernel
theorem gls_law : ((["len", "_law_entry", "_law_words", "_law_bad_words", "entries_of", "isinstance", "list", "_law_refused"] : List Str).all (glB (defScope st_law))) = true := by decide +kernel
theorem ok_law (D0 : FunD K "law" "law" (defArgs st_law) (defBody st_law) (defScope st_law) [] [] f fd) (T : Tx K mg ca) (c__law_bad_words : Cal P w K mg base "_law_bad_words" 2 (spD K ca (F3 m__law_bad_words)) []) (c__law_entry : Cal P w K mg base "_law_entry" 2 (spD K ca (F1 m__law_entry)) []) (c__law_refused : Cal P w K mg base "_law_refused" 7 (spD K ca (F2 m__law_refused)) []) (c__law_words : Cal P w K mg base "_law_words" 1 (spD K ca (F1 m__law_words)) []) (c_entries_of : Cal P w K mg base "entries_of" 6 (spD K ca (F1 m_entries_of)) []) :
    FnOk P w K mg base (L2.CX P w) 8 f fd ["script"] (spD K ca (F1 m_law)) := by
  refine def_D D0 sc_law (fun ds h => ?_) (fun cdv A outer s H E ds hr nb => ?_)
  · obtain ⟨v_script, rfl⟩ := F1_inv h
    rfl
  · obtain ⟨v_script, rfl⟩ := F1_inv nb
    have tk : Takes (cxOf (L2.CX P w) P w K mg base ["script", "first", "second", "words", "bad", "rows", "good", "cell", "row"] "law" (defScope st_law) f cdv A outer s H E) (WD E) := takes_of rfl rfl rfl rfl
    have po : PassesOwn (model P w) (cxOf (L2.CX P w) P w K mg base ["script", "first", "second", "words", "bad", "rows", "good", "cell", "row"] "law" (defScope st_law) f cdv A outer s H E).A (cxOf (L2.CX P w) P w K mg base ["script", "first", "second", "words", "bad", "rows", "good", "cell", "row"] "law" (defScope st_law) f cdv A outer s H E).env (cxOf (L2.CX P w) P w K mg base ["script", "first", "second", "words", "bad", "rows", "good", "cell", "row"] "law" (defScope st_law) f cdv A outer s H E).xe := passes_of rfl
    exact ⟨Unit, fun _ => [], _, s_weak (ρ' := [some (.d v_script), none, none, none, none, none, none, none, none]) (le_refl _) (s_set (i := 1) sc_law.nd rfl (lo vl_law 1 rfl) e_int le_nil (fun v_first_1 => (s_set (i := 2) sc_law.nd rfl (lo vl_law 2 rfl) e_int le_nil (fun v_second_2 => (s_seq (emb' := (fun (s : D) => [some (.d v_script), some (.d s), some (.d v_second_2), none, none, none, none, none, none])) (s_if (t_cmp op_gt l_gt (e_callB call_len l_len (gl gls_law 0 rfl) T.n_len b_len (a_cons (e_var (i := 0) rfl (vi vl_law 0 rfl) rfl (dbg1 dl_law 0 rfl) (dbg2 dl_law 0 rfl)) a_nil)) e_int (nomark _)) le_nil (s_set (i := 1) sc_law.nd rfl (lo vl_law 1 rfl) (e_item (e_var (i := 0) rfl (vi vl_law 0 rfl) rfl (dbg1 dl_law 0 rfl) (dbg2 dl_law 0 rfl)) e_int) le_nil (fun v_first_9 => (s_nil (s := v_first_9) (le_s (le_s (le_s (le_n (le_n (le_n (le_n (le_n (le_n le_nil)))))))))))) (s_nil (s := v_first_1) (le_s (le_s (le_s (le_n (le_n (le_n (le_n (le_n (le_n le_nil))))))))))) (fun s12 => (s_seq (emb' := (fun (s : D) => [some (.d v_script), some (.d s12), some (.d s), none, none, none, none, none, none])) (s_if (t_cmp op_gt l_gt (e_callB call_len l_len (gl gls_law 0 rfl) T.n_len b_len (a_cons (e_var (i := 0) rfl (vi vl_law 0 rfl) rfl (dbg1 dl_law 0 rfl) (dbg2 dl_law 0 rfl)) a_nil)) e_int (nomark _)) le_nil (s_set (i := 2) sc_law.nd rfl (lo vl_law 2 rfl) (e_item (e_var (i := 0) rfl (vi vl_law 0 rfl) rfl (dbg1 dl_law 0 rfl) (dbg2 dl_law 0 rfl)) e_int) le_nil (fun v_second_19 => (s_nil (s := v_second_19) (le_s (le_s (le_s (le_n (le_n (le_n (le_n (le_n (le_n le_nil)))))))))))) (s_nil (s := v_second_2) (le_s (le_s (le_s (le_n (le_n (le_n (le_n (le_n (le_n le_nil))))))))))) (fun s22 => (s_set (i := 3) sc_law.nd rfl (lo vl_law 3 rfl) (e_call c__law_words (hr.mono (by decide)) (gl gls_law 2 rfl) (passAt tk) (a_cons (e_call c__law_entry (hr.mono (by decide)) (gl gls_law 1 rfl) (passAt tk) (a_cons (e_var (i := 1) rfl (vi vl_law 1 rfl) rfl (dbg1 dl_law 1 rfl) (dbg2 dl_law 1 rfl)) a_nil)) a_nil)) le_nil (fun v_words_23 => (s_set (i := 4) sc_law.nd rfl (lo vl_law 4 rfl) (e_join e_str (e_call c__law_bad_words (hr.mono (by decide)) (gl gls_law 3 rfl) (passAt tk) (a_cons (e_var (i := 3) rfl (vi vl_law 3 rfl) rfl (dbg1 dl_law 3 rfl) (dbg2 dl_law 3 rfl)) (a_cons (e_op op_mod l_mod (e_var (i := 2) rfl (vi vl_law 2 rfl) rfl (dbg1 dl_law 2 rfl) (dbg2 dl_law 2 rfl)) e_int) (a_cons (e_op op_addA l_add e_int (e_op op_mod l_mod (e_op op_fdivW l_fdiv (e_var (i := 2) rfl (vi vl_law 2 rfl) rfl (dbg1 dl_law 2 rfl) (dbg2 dl_law 2 rfl)) e_int) (e_op op_sub l_sub (e_callB call_len l_len (gl gls_law 0 rfl) T.n_len b_len (a_cons (e_var (i := 3) rfl (vi vl_law 3 rfl) rfl (dbg1 dl_law 3 rfl) (dbg2 dl_law 3 rfl)) a_nil)) e_int))) a_nil))))) le_nil (fun v_bad_30 => (s_setLcN (own := [((Str.ofString "cell"), 7)]) (i := 7) (j := 5) rfl sc_law.nd rfl (lcl ll_law 0 rfl) (sw_true rfl (lcl ll_law 0 rfl) rfl (by decide +kernel)) (i_seq (e_slice (e_var (i := 0) rfl (vi vl_law 0 rfl) rfl (dbg1 dl_law 0 rfl) (dbg2 dl_law 0 rfl)) (p_some e_int) p_none)) rfl (blkOk_by (by show blkC ["script", "first", "second", "words", "bad", "rows", "good", "cell", "row"] (defScope st_law) _ _ = true; decide +kernel)) (le_refl _) rfl (by decide) le_nil (fun _ _ _ _ _ => pg_name (i := 7) sc_law.nd rfl (by first | exact Or.inl rfl | exact Or.inr rfl)) (fun v_cell_136 _ _ _ _ _ => ts_nil) (fun v_cell_136 _ _ _ _ _ => (e_join e_str (e_call c__law_words (hr.mono (by decide)) rfl (passAt takes0) (a_cons (e_call c__law_entry (hr.mono (by decide)) rfl (passAt takes0) (a_cons (e_var (i := 7) rfl (by first | exact Or.inl rfl | exact Or.inr (Or.inl rfl) | exact Or.inr (Or.inr rfl)) rfl (by decide) (by decide)) a_nil)) a_nil)))) (fun v_rows_53 => (s_set (i := 6) sc_law.nd rfl (lo vl_law 6 rfl) (e_call c_entries_of (hr.mono (by decide)) (gl gls_law 4 rfl) (passAt tk) (a_cons (e_lend (i := 5) rfl (e_join e_str (e_pub (e_lcN (own := [((Str.ofString "row"), 8)]) (i := 8) rfl sc_law.nd (i_seq (e_var (i := 5) rfl (vi vl_law 5 rfl) rfl (dbg1 dl_law 5 rfl) (dbg2 dl_law 5 rfl))) rfl (blkOk_by (by show blkC ["script", "first", "second", "words", "bad", "rows", "good", "cell", "row"] (defScope st_law) _ _ = true; decide +kernel)) (le_refl _) rfl (by decide) (fun _ _ _ _ _ => pg_name (i := 8) sc_law.nd rfl (by first | exact Or.inl rfl | exact Or.inr rfl)) (fun v_row_71 _ _ _ _ _ => ts_nil) (fun v_row_71 _ _ _ _ _ => (e_op op_addA l_add (e_var (i := 8) rfl (by first | exact Or.inl rfl | exact Or.inr (Or.inl rfl) | exact Or.inr (Or.inr rfl)) rfl (by decide) (by decide)) e_str)))))) a_nil)) le_nil (fun v_good_69 => (s_ifx (nE := fun e : Empty => e.elim) (PW.pt (w_or (t_not (t_truth (e_isT (e_var (i := 6) rfl (vi vl_law 6 rfl) rfl (dbg1 dl_law 6 rfl) (dbg2 dl_law 6 rfl)) (gl gls_law 5 rfl) T.n_isinstance b_isinstance (gl gls_law 6 rfl) T.n_list b_list))) (w_or1 (t_cmp (op_neA hr.units) l_ne (e_callB call_len l_len (gl gls_law 0 rfl) T.n_len b_len (a_cons (e_var (i := 6) rfl (vi vl_law 6 rfl) rfl (dbg1 dl_law 6 rfl) (dbg2 dl_law 6 rfl)) a_nil)) (e_ownLen (i := 5) rfl (vi vl_law 5 rfl) (dbg1 dl_law 5 rfl) (dbg2 dl_law 5 rfl) rfl (gl gls_law 0 rfl) T.n_len b_len) (nomark _))))) le_nil (s_one (s_ret e_bl le_nil)) (s_insert (i := 5) rfl (vi vl_law 5 rfl) (dbg1 dl_law 5 rfl) (dbg2 dl_law 5 rfl) rfl (e_op op_mod l_mod (e_op op_fdivW l_fdiv (e_var (i := 2) rfl (vi vl_law 2 rfl) rfl (dbg1 dl_law 2 rfl) (dbg2 dl_law 2 rfl)) e_int) (e_op op_addA l_add (e_ownLen (i := 5) rfl (vi vl_law 5 rfl) (dbg1 dl_law 5 rfl) (dbg2 dl_law 5 rfl) rfl (gl gls_law 0 rfl) T.n_len b_len) e_int)) (e_var (i := 4) rfl (vi vl_law 4 rfl) rfl (dbg1 dl_law 4 rfl) (dbg2 dl_law 4 rfl)) le_nil (fun v_rows_101 => (s_pub (i := 5) rfl (s_ifx (nE := fun e : Empty => e.elim) (PW.pt (w_or (t_not (t_truth (e_call c__law_refused (hr.mono (by decide)) (gl gls_law 7 rfl) (passAt tk) (a_cons e_str (a_cons e_bl a_nil))))) (w_or1 (t_not (t_truth (e_call c__law_refused (hr.mono (by decide)) (gl gls_law 7 rfl) (passAt tk) (a_cons (e_var (i := 4) rfl (vi vl_law 4 rfl) rfl (dbg1 dl_law 4 rfl) (dbg2 dl_law 4 rfl)) (a_cons e_bl a_nil)))))))) le_nil (s_one (s_ret e_bl le_nil)) (s_one (s_ret (e_call c__law_refused (hr.mono (by decide)) (gl gls_law 7 rfl) (passAt tk) (a_cons (e_join e_str (e_pub (e_lcN (own := [((Str.ofString "row"), 8)]) (i := 8) rfl sc_law.nd (i_seq (e_var (i := 5) rfl (vi vl_law 5 rfl) rfl (dbg1 dl_law 5 rfl) (dbg2 dl_law 5 rfl))) rfl (blkOk_by (by show blkC ["script", "first", "second", "words", "bad", "rows", "good", "cell", "row"] (defScope st_law) _ _ = true; decide +kernel)) (le_refl _) rfl (by decide) (fun _ _ _ _ _ => pg_name (i := 8) sc_law.nd rfl (by first | exact Or.inl rfl | exact Or.inr rfl)) (fun v_row_118 _ _ _ _ _ => ts_nil) (fun v_row_118 _ _ _ _ _ => (e_op op_addA l_add (e_var (i := 8) rfl (by first | exact Or.inl rfl | exact Or.inr (Or.inl rfl) | exact Or.inr (Or.inr rfl)) rfl (by decide) (by decide)) e_str))))) (a_cons e_bl a_nil))) le_nil))))))))))))))))))))))), rfl⟩
end
def caOf (K : PySem.W.Frag) : Nat → Addr := fun j => match j with
  | 0 => He.ga K "CanalError"
  | 1 => He.ga K "BadRow"
  | 2 => He.ga K "BadNumber"
  | 3 => He.ga K "Unknown"
  | 4 => He.ga K "Torn"
  | _ => 0
theorem facts {P : Program} {w : World} {K : PySem.W.Frag} {h : Heap} {mg : Str → Option Value} {f : Addr} (X : K.In h) (G : h.Ns mainGlobals mg) (hfa : mg ("law" : Str) = some (.ref f)) (c0 : SaysX fa fn ex K) :
    ∃ fd : FuncData, (∀ (s : Shared) (v : Value), BindsTo s fd ⟨[v], []⟩ [("script", v)]) ∧ ∀ base : Heap, K.In base → base.Ns mainGlobals mg → FnOk P w K mg base (L2.CX P w) 8 f fd ["script"] (spD K (caOf K) (F1 m_law)) := by
  obtain ⟨c, hex⟩ := c0.said
  obtain ⟨fd_made_of, D_made_of⟩ := c.def_ 0 (d := d_made_of) rfl
  obtain ⟨fd_is_name, D_is_name⟩ := c.def_ 1 (d := d_is_name) rfl
  obtain ⟨fd_number_of, D_number_of⟩ := c.def_ 2 (d := d_number_of) rfl
  obtain ⟨fd_name_of, D_name_of⟩ := c.def_ 3 (d := d_name_of) rfl
  obtain ⟨fd_pairs_of, D_pairs_of⟩ := c.def_ 4 (d := d_pairs_of) rfl
  obtain ⟨fd_steps_of, D_steps_of⟩ := c.def_ 5 (d := d_steps_of) rfl
  obtain ⟨fd_weather_of, D_weather_of⟩ := c.def_ 6 (d := d_weather_of) rfl
  obtain ⟨fd_entry_of, D_entry_of⟩ := c.def_ 7 (d := d_entry_of) rfl
  obtain ⟨fd_entries_of, D_entries_of⟩ := c.def_ 8 (d := d_entries_of) rfl
  obtain ⟨fd__law_name, D__law_name⟩ := c.def_ 9 (d := d__law_name) rfl
  obtain ⟨fd__law_entry, D__law_entry⟩ := c.def_ 10 (d := d__law_entry) rfl
  obtain ⟨fd__law_words, D__law_words⟩ := c.def_ 11 (d := d__law_words) rfl
  obtain ⟨fd__law_put, D__law_put⟩ := c.def_ 12 (d := d__law_put) rfl
  obtain ⟨fd__law_bad_words, D__law_bad_words⟩ := c.def_ 13 (d := d__law_bad_words) rfl
  obtain ⟨fd__law_refused, D__law_refused⟩ := c.def_ 14 (d := d__law_refused) rfl
  obtain ⟨fd_law, D_law⟩ := c.def_ 15 (d := d_law) rfl
  have T : Tx K mg (caOf K) := ⟨He.free_ok X G (c.fact 16 (f := .free "len") rfl), He.int_ok X G (c.fact 17 (f := .int "LONGEST" 12) rfl), He.str_ok X G (c.fact 18 (f := .str "LETTERS" "abcdefghijklmnopqrstuvwxyz") rfl), ExcF.of X G (c.fact 19 (f := .glo "BadRow") rfl) (c.fact 20 (f := .exc "BadRow") rfl), He.free_ok X G (c.fact 21 (f := .free "int") rfl), He.str_ok X G (c.fact 22 (f := .str "FIGURES" "0123456789") rfl), He.free_ok X G (c.fact 23 (f := .free "range") rfl), He.free_ok X G (c.fact 24 (f := .free "tuple") rfl), tupB_ok X G (exI hex 0 rfl), He.free_ok X G (c.fact 25 (f := .free "isinstance") rfl), He.free_ok X G (c.fact 26 (f := .free "str") rfl), ExcF.of X G (c.fact 27 (f := .glo "BadNumber") rfl) (c.fact 28 (f := .exc "BadNumber") rfl), ExcF.of X G (c.fact 29 (f := .glo "CanalError") rfl) (c.fact 30 (f := .exc "CanalError") rfl), ExcF.of X G (c.fact 31 (f := .glo "Torn") rfl) (c.fact 32 (f := .exc "Torn") rfl), ExcF.of X G (c.fact 33 (f := .glo "Unknown") rfl) (c.fact 34 (f := .exc "Unknown") rfl), He.free_ok X G (c.fact 35 (f := .free "ValueError") rfl), (by intro j b h; rcases j with _ | _ | _ | _ | _ | j; (· cases (show some false = some b from h); exact He.exm_ok (c.fact 36 (f := .exm "CanalError" "BadRow" false) rfl)); (· cases (show some true = some b from h); exact He.exm_ok (c.fact 37 (f := .exm "BadRow" "BadRow" true) rfl)); (· cases (show some false = some b from h); exact He.exm_ok (c.fact 38 (f := .exm "BadNumber" "BadRow" false) rfl)); (· cases (show some false = some b from h); exact He.exm_ok (c.fact 39 (f := .exm "Unknown" "BadRow" false) rfl)); (· cases (show some false = some b from h); exact He.exm_ok (c.fact 40 (f := .exm "Torn" "BadRow" false) rfl)); (· cases (show (none : Option Bool) = some b from h))), (tabB_all (P := fun j b => ExcC K (caOf K j) ∧ PySem.W.kitOne K (.ref (caOf K j)) (.ref (He.ga K "BadNumber")) = some b) (all_cons ⟨excB_ok (exI hex 9 rfl), kitV_ok (exI hex 10 rfl)⟩ (all_cons ⟨excB_ok (exI hex 7 rfl), kitV_ok (exI hex 8 rfl)⟩ (all_cons ⟨excB_ok (exI hex 5 rfl), kitV_ok (exI hex 6 rfl)⟩ (all_cons ⟨excB_ok (exI hex 3 rfl), kitV_ok (exI hex 4 rfl)⟩ (all_cons ⟨excB_ok (exI hex 1 rfl), kitV_ok (exI hex 2 rfl)⟩ all_nil)))))), (tabB_all (P := fun j b => ExcC K (caOf K j) ∧ PySem.W.kitOne K (.ref (caOf K j)) (.ref (He.ga K "CanalError")) = some b) (all_cons ⟨excB_ok (exI hex 9 rfl), kitV_ok (exI hex 15 rfl)⟩ (all_cons ⟨excB_ok (exI hex 7 rfl), kitV_ok (exI hex 14 rfl)⟩ (all_cons ⟨excB_ok (exI hex 5 rfl), kitV_ok (exI hex 13 rfl)⟩ (all_cons ⟨excB_ok (exI hex 3 rfl), kitV_ok (exI hex 12 rfl)⟩ (all_cons ⟨excB_ok (exI hex 1 rfl), kitV_ok (exI hex 11 rfl)⟩ all_nil)))))), (tabB_all (P := fun j b => ExcC K (caOf K j) ∧ PySem.W.kitOne K (.ref (caOf K j)) (.ref (He.ga K "Torn")) = some b) (all_cons ⟨excB_ok (exI hex 9 rfl), kitV_ok (exI hex 20 rfl)⟩ (all_cons ⟨excB_ok (exI hex 7 rfl), kitV_ok (exI hex 19 rfl)⟩ (all_cons ⟨excB_ok (exI hex 5 rfl), kitV_ok (exI hex 18 rfl)⟩ (all_cons ⟨excB_ok (exI hex 3 rfl), kitV_ok (exI hex 17 rfl)⟩ (all_cons ⟨excB_ok (exI hex 1 rfl), kitV_ok (exI hex 16 rfl)⟩ all_nil)))))), (tabB_all (P := fun j b => ExcC K (caOf K j) ∧ PySem.W.kitOne K (.ref (caOf K j)) (.ref (He.ga K "Unknown")) = some b) (all_cons ⟨excB_ok (exI hex 9 rfl), kitV_ok (exI hex 25 rfl)⟩ (all_cons ⟨excB_ok (exI hex 7 rfl), kitV_ok (exI hex 24 rfl)⟩ (all_cons ⟨excB_ok (exI hex 5 rfl), kitV_ok (exI hex 23 rfl)⟩ (all_cons ⟨excB_ok (exI hex 3 rfl), kitV_ok (exI hex 22 rfl)⟩ (all_cons ⟨excB_ok (exI hex 1 rfl), kitV_ok (exI hex 21 rfl)⟩ all_nil)))))), (tabB_all (P := fun j b => ExcC K (caOf K j) ∧ PySem.W.kitOne K (.ref (caOf K j)) (.type "ValueError") = some b) (all_cons ⟨excB_ok (exI hex 9 rfl), kitV_ok (exI hex 30 rfl)⟩ (all_cons ⟨excB_ok (exI hex 7 rfl), kitV_ok (exI hex 29 rfl)⟩ (all_cons ⟨excB_ok (exI hex 5 rfl), kitV_ok (exI hex 28 rfl)⟩ (all_cons ⟨excB_ok (exI hex 3 rfl), kitV_ok (exI hex 27 rfl)⟩ (all_cons ⟨excB_ok (exI hex 1 rfl), kitV_ok (exI hex 26 rfl)⟩ all_nil)))))), He.free_ok X G (c.fact 41 (f := .free "list") rfl)⟩
  have e := hfa.symm.trans (He.glo_ok X G (c.fact 15 (f := .glo "law") rfl))
  cases e
  have b := FunD.bindsA (ps := ["script"]) D_law fun _ _ _ _ _ _ us hl => match us, hl with | [_], _ => rfl
  refine ⟨fd_law, fun s v => b s [v] rfl, fun base _ _ => ?_⟩
  have c_made_of : Cal P w K mg base "made_of" 1 (spD K (caOf K) (F2 m_made_of)) [] := ⟨⟨_, _, ["word", "signs"], [], (ok_made_of D_made_of T), (He.glo_ok X G (c.fact 0 (f := .glo "made_of") rfl)), D_made_of.kp, FunD.bindsN D_made_of (fun _ _ _ _ _ _ us hl => match us, hl with | [_, _], _ => rfl), .nil⟩⟩
  have c_is_name : Cal P w K mg base "is_name" 2 (spD K (caOf K) (F1 m_is_name)) [] := ⟨⟨_, _, ["word"], [], (ok_is_name D_is_name T c_made_of), (He.glo_ok X G (c.fact 1 (f := .glo "is_name") rfl)), D_is_name.kp, FunD.bindsN D_is_name (fun _ _ _ _ _ _ us hl => match us, hl with | [_], _ => rfl), .nil⟩⟩
  have c_number_of : Cal P w K mg base "number_of" 2 (spD K (caOf K) (F1 m_number_of)) [] := ⟨⟨_, _, ["word"], [], (ok_number_of D_number_of T c_made_of), (He.glo_ok X G (c.fact 2 (f := .glo "number_of") rfl)), D_number_of.kp, FunD.bindsN D_number_of (fun _ _ _ _ _ _ us hl => match us, hl with | [_], _ => rfl), .nil⟩⟩
  have c_name_of : Cal P w K mg base "name_of" 3 (spD K (caOf K) (F1 m_name_of)) [] := ⟨⟨_, _, ["word"], [], (ok_name_of D_name_of T c_is_name), (He.glo_ok X G (c.fact 3 (f := .glo "name_of") rfl)), D_name_of.kp, FunD.bindsN D_name_of (fun _ _ _ _ _ _ us hl => match us, hl with | [_], _ => rfl), .nil⟩⟩
  have c_pairs_of : Cal P w K mg base "pairs_of" 1 (spD K (caOf K) (F1 m_pairs_of)) [] := ⟨⟨_, _, ["words"], [], (ok_pairs_of D_pairs_of T), (He.glo_ok X G (c.fact 4 (f := .glo "pairs_of") rfl)), D_pairs_of.kp, FunD.bindsN D_pairs_of (fun _ _ _ _ _ _ us hl => match us, hl with | [_], _ => rfl), .nil⟩⟩
  have c_steps_of : Cal P w K mg base "steps_of" 4 (spD K (caOf K) (F1 m_steps_of)) [] := ⟨⟨_, _, ["words"], [], (ok_steps_of D_steps_of T c_name_of c_pairs_of), (He.glo_ok X G (c.fact 5 (f := .glo "steps_of") rfl)), D_steps_of.kp, FunD.bindsN D_steps_of (fun _ _ _ _ _ _ us hl => match us, hl with | [_], _ => rfl), .nil⟩⟩
  have c_weather_of : Cal P w K mg base "weather_of" 3 (spD K (caOf K) (F1 m_weather_of)) [] := ⟨⟨_, _, ["words"], [], (ok_weather_of D_weather_of T c_number_of c_pairs_of), (He.glo_ok X G (c.fact 6 (f := .glo "weather_of") rfl)), D_weather_of.kp, FunD.bindsN D_weather_of (fun _ _ _ _ _ _ us hl => match us, hl with | [_], _ => rfl), .nil⟩⟩
  have c_entry_of : Cal P w K mg base "entry_of" 5 (spD K (caOf K) (F1 m_entry_of)) [] := ⟨⟨_, _, ["row"], [], (ok_entry_of D_entry_of T c_name_of c_number_of c_steps_of c_weather_of), (He.glo_ok X G (c.fact 7 (f := .glo "entry_of") rfl)), D_entry_of.kp, FunD.bindsN D_entry_of (fun _ _ _ _ _ _ us hl => match us, hl with | [_], _ => rfl), .nil⟩⟩
  have c_entries_of : Cal P w K mg base "entries_of" 6 (spD K (caOf K) (F1 m_entries_of)) [] := ⟨⟨_, _, ["text"], [], (ok_entries_of D_entries_of T c_entry_of), (He.glo_ok X G (c.fact 8 (f := .glo "entries_of") rfl)), D_entries_of.kp, FunD.bindsN D_entries_of (fun _ _ _ _ _ _ us hl => match us, hl with | [_], _ => rfl), .nil⟩⟩
  have c__law_name : Cal P w K mg base "_law_name" 1 (spD K (caOf K) (F1 m__law_name)) [] := ⟨⟨_, _, ["seed"], [], (ok__law_name D__law_name T), (He.glo_ok X G (c.fact 9 (f := .glo "_law_name") rfl)), D__law_name.kp, FunD.bindsN D__law_name (fun _ _ _ _ _ _ us hl => match us, hl with | [_], _ => rfl), .nil⟩⟩
  have c__law_entry : Cal P w K mg base "_law_entry" 2 (spD K (caOf K) (F1 m__law_entry)) [] := ⟨⟨_, _, ["cell"], [], (ok__law_entry D__law_entry T c__law_name), (He.glo_ok X G (c.fact 10 (f := .glo "_law_entry") rfl)), D__law_entry.kp, FunD.bindsN D__law_entry (fun _ _ _ _ _ _ us hl => match us, hl with | [_], _ => rfl), .nil⟩⟩
  have c__law_words : Cal P w K mg base "_law_words" 1 (spD K (caOf K) (F1 m__law_words)) [] := ⟨⟨_, _, ["entry"], [], (ok__law_words D__law_words T), (He.glo_ok X G (c.fact 11 (f := .glo "_law_words") rfl)), D__law_words.kp, FunD.bindsN D__law_words (fun _ _ _ _ _ _ us hl => match us, hl with | [_], _ => rfl), .nil⟩⟩
  have c__law_put : Cal P w K mg base "_law_put" 1 (spD K (caOf K) (F3 m__law_put)) [] := ⟨⟨_, _, ["words", "at", "word"], [], (ok__law_put D__law_put T), (He.glo_ok X G (c.fact 12 (f := .glo "_law_put") rfl)), D__law_put.kp, FunD.bindsN D__law_put (fun _ _ _ _ _ _ us hl => match us, hl with | [_, _, _], _ => rfl), .nil⟩⟩
  have c__law_bad_words : Cal P w K mg base "_law_bad_words" 2 (spD K (caOf K) (F3 m__law_bad_words)) [] := ⟨⟨_, _, ["words", "way", "at"], [], (ok__law_bad_words D__law_bad_words T c__law_put), (He.glo_ok X G (c.fact 13 (f := .glo "_law_bad_words") rfl)), D__law_bad_words.kp, FunD.bindsN D__law_bad_words (fun _ _ _ _ _ _ us hl => match us, hl with | [_, _, _], _ => rfl), .nil⟩⟩
  have c__law_refused : Cal P w K mg base "_law_refused" 7 (spD K (caOf K) (F2 m__law_refused)) [] := ⟨⟨_, _, ["row", "many"], [], (ok__law_refused D__law_refused T c_entries_of c_entry_of), (He.glo_ok X G (c.fact 14 (f := .glo "_law_refused") rfl)), D__law_refused.kp, FunD.bindsN D__law_refused (fun _ _ _ _ _ _ us hl => match us, hl with | [_, _], _ => rfl), .nil⟩⟩
  exact ok_law D_law T c__law_bad_words c__law_entry c__law_refused c__law_words c_entries_of
end Lw
namespace Lk
open PySem PySem.Spec PyProof.Rows L2
/-! texts -/
theorem strcut_le (z : Str) (lo hi : Option Int) : (cutS z lo hi).length ≤ z.length := by
  have hz : z.length = z.cps.toList.length := by simp [Str.length]
  show ((z.cps.toList.drop (HT.sIx z.length 0 lo)).take (HT.sIx z.length z.length hi - HT.sIx z.length 0 lo)).toArray.size ≤ z.length
  rw [List.size_toArray, List.length_take, List.length_drop, hz]
  omega
theorem strcat_len (a b : Str) : (a ++ b).length = a.length + b.length := by
  show (a.cps ++ b.cps).size = a.cps.size + b.cps.size
  exact Array.size_append
theorem add_str {a b : Str} (h : a.length + b.length ≤ 100000) : D.add (.str a) (.str b) = .ok (.str (a ++ b)) := if_pos h
theorem one_len (c : Nat) : (⟨#[c]⟩ : Str).length = 1 := rfl
theorem item_str {s : Str} {i : Nat} (h : i < s.cps.toList.length) (hl : s.length ≤ 100000) : D.item (.str s) (.int (i : Int)) = .ok (.str ⟨#[s.cps.toList[i]]⟩) := by
  show (if s.length ≤ 100000 then (match L2.atI s.cps.toList (i : Int) with | some c => Res.ok (D.str ⟨#[c]⟩) | none => Res.bug) else Res.bug) = _
  rw [if_pos hl, atI_nat h]
theorem slice_str {s : Str} {lo hi : Option Int} (hl : s.length ≤ 100000) : D.slice (.str s) lo hi = .ok (.str (cutS s lo hi)) := if_pos hl
theorem len_str {s : Str} (hl : s.length ≤ 100000) : D.len [.str s] = .ok (.int (s.length : Int)) := if_pos hl
theorem notin_sign (c : Nat) (z : Str) : D.notin (.str ⟨#[c]⟩) (.str z) = .ok (.bl (!decide (c ∈ z.cps.toList))) := rfl
theorem loop_all {S' B T α : Type} {step : Unit → D → Res (Out Unit Unit T)} {c : α → D} {r : T} (p : α → Bool) : ∀ (xs : List α), (∀ x ∈ xs, step () (c x) = if p x = true then .ok (.nx ()) else .ok (.rt r)) →
    (loopR step (xs.map c) () : Res (Out Unit B T)) = if xs.all p = true then .ok (.nx ()) else .ok (.rt r)
  | [], _ => rfl
  | x :: xs, h => by
    have e := h x List.mem_cons_self
    have ih := loop_all (S' := S') (B := B) (step := step) (c := c) (r := r) p xs fun y hy => h y (List.mem_cons_of_mem _ hy)
    by_cases q : p x = true
    · rw [if_pos q] at e
      have ea : (x :: xs).all p = xs.all p := by simp [q]
      rw [ea, ← ih]
      simp only [List.map_cons, loopR, e]
      rfl
    · rw [if_neg q] at e
      have ea : (x :: xs).all p = false := by simp [q]
      rw [ea]
      simp only [List.map_cons, loopR, e]
      rfl
end Lk
/-! plain laws about comprehensions that may raise -/
namespace Lk
open PySem PySem.Spec PyProof.Rows L2
theorem compX_map {α : Type} {F : D → Res (Option D)} (c : α → D) (g : α → D) : ∀ {xs : List α}, (∀ x ∈ xs, F (c x) = .ok (some (g x))) → compX F (xs.map c) = .ok (xs.map g)
  | [], _ => rfl
  | x :: xs, h => by
    rw [List.map_cons, compX_cons, h x List.mem_cons_self, bind_ok, compX_map c g (xs := xs) fun y hy => h y (List.mem_cons_of_mem _ hy)]
    rfl
theorem compX_filter {α : Type} {F : D → Res (Option D)} (c : α → D) (p : α → Bool) (g : α → D) : ∀ {xs : List α}, (∀ x ∈ xs, F (c x) = .ok (if p x then some (g x) else none)) → compX F (xs.map c) = .ok ((xs.filter p).map g)
  | [], _ => rfl
  | x :: xs, h => by
    rw [List.map_cons, compX_cons, h x List.mem_cons_self, bind_ok, compX_filter c p g (xs := xs) fun y hy => h y (List.mem_cons_of_mem _ hy)]
    cases q : p x <;> simp [List.filter_cons, q]
/-- one raises, the ones ahead of it are had -/
theorem compX_exc {F : D → Res (Option D)} {k : Nat} : ∀ {xs : List D}, (∀ x ∈ xs, (∃ o, F x = .ok o) ∨ F x = .exc k) → (∃ x ∈ xs, F x = .exc k) → compX F xs = .exc k
  | [], _, ⟨_, h, _⟩ => by cases h
  | x :: xs, h, ⟨y, hy, e⟩ => by
    rw [compX_cons]
    rcases h x List.mem_cons_self with ⟨o, q⟩ | q
    · rw [q, bind_ok]
      rcases List.mem_cons.mp hy with z | hy
      · rw [← z, e] at q; cases q
      · rw [compX_exc (xs := xs) (fun z hz => h z (List.mem_cons_of_mem _ hz)) ⟨y, hy, e⟩]
        rfl
    · rw [q]; rfl
end Lk
namespace Lk
open PySem PySem.Spec PyProof.Rows L2
theorem tjoin_one (a x : Str) : Txt.join a [x] = x := rfl
theorem tjoin_eq (a : Str) (xs : List Str) : Txt.join a xs = Str.join a xs := by
  unfold Txt.join
  rw [PySem.StrLaws.glued_eq_join]
theorem tjoin_len (a : Str) (xs : List Str) : (Txt.join a xs).length ≤ (xs.map (·.length)).sum + xs.length * a.length := by
  rw [tjoin_eq]
  exact PySem.StrLaws.join_length_le a xs
theorem ts_len {i : Int} (h0 : 0 ≤ i) (h : i < 10 ^ 12) : (Str.ofString (toString i)).length ≤ 12 := toString_length_le h0 (by decide) h
theorem ts_eq {i : Int} (h0 : 0 ≤ i) (h : i < 10 ^ 12) : D.toStrA [.int i] = .ok (.str (Str.ofString (toString i))) := toStrA_int (by
  have : i.natAbs < 2 ^ 100 := by omega
  exact Nat.lt_trans (log2_small this (by decide)) (by decide))
theorem strOk_cat (a b : Str) : PyData.strOk (a ++ b) = (PyData.strOk a && PyData.strOk b) := by
  show (a.cps ++ b.cps).all (· < 0x110000) = _
  rw [Array.all_append]
  rfl
theorem lfL_strs : ∀ ns : List Str, D.lfL (ns.map D.str) = true
  | [] => by simp [D.lfL]
  | n :: ns => by simp [D.lfL, D.lf, lfL_strs ns]
theorem freeL_strs (ns : List Str) : D.freeL (ns.map D.str) = .ok (ns.map D.str) := if_pos (lfL_strs ns)
theorem cat_strs {a b : List Str} (h : a.length + b.length ≤ 100000) : D.cat (.lst (a.map D.str)) (.lst (b.map D.str)) = .ok ((a ++ b).map D.str) := by
  show (if (a.map D.str).length + (b.map D.str).length ≤ 100000 then Res.ok (a.map D.str ++ b.map D.str) else Res.bug) = _
  rw [if_pos (by rw [List.length_map, List.length_map]; exact h), List.map_append]
theorem push_str {a : List Str} {x : Str} (h : a.length < 100000) : pushR (a.map D.str) (.str x) = .ok ((a ++ [x]).map D.str) := by
  rw [pushR_ok (by rw [List.length_map]; exact h), List.map_append]
  rfl
/-- a loop that puts two words behind for each -/
theorem loopR_words {S' B T α : Type} {step : List D → D → Res (Out (List D) (List D) T)} (c : α → D) (g : α → List Str) : ∀ (xs : List α) (ws : List Str), (∀ x, (g x).length = 2) → ws.length + 2 * xs.length ≤ 1000 →
    (∀ l : List Str, l.length ≤ 1000 → ∀ x ∈ xs, step (l.map D.str) (c x) = .ok (.nx ((l ++ g x).map D.str))) → (loopR step (xs.map c) (ws.map D.str) : Res (Out (List D) B T)) = .ok (.nx ((ws ++ xs.flatMap g).map D.str))
  | [], ws, _, _, _ => by simp
  | x :: xs, ws, hg, hl, hs => by
    have h2 := hg x
    rw [List.length_cons] at hl
    have e := hs ws (by omega) x List.mem_cons_self
    simp only [List.map_cons, loopR, e]
    have ih := loopR_words (S' := S') (B := B) (step := step) c g xs (ws ++ g x) hg (by rw [List.length_append, h2]; omega) fun l hl y hy => hs l hl y (List.mem_cons_of_mem _ hy)
    rw [List.flatMap_cons, ← List.append_assoc]
    exact ih
@[simp] theorem push_0 {d : D} : pushR [] d = .ok [d] := if_pos (by simp)
@[simp] theorem push_1 {a d : D} : pushR [a] d = .ok [a, d] := if_pos (by simp)
@[simp] theorem push_2 {a b d : D} : pushR [a, b] d = .ok [a, b, d] := if_pos (by simp)
theorem sum_le {n : Nat} : ∀ (xs : List Str), (∀ x ∈ xs, x.length ≤ n) → (xs.map (·.length)).sum ≤ n * xs.length
  | [], _ => by simp
  | x :: xs, h => by
    have h1 := h x List.mem_cons_self
    have ih := sum_le xs fun y hy => h y (List.mem_cons_of_mem _ hy)
    simp only [List.map_cons, List.sum_cons, List.length_cons, Nat.mul_add, Nat.mul_one]
    omega
end Lk
namespace Lw
open PySem Lk
abbrev S' (s : String) : Str := Str.ofString s
def abc : Str := Str.ofString "abcdefghijklmnopqrstuvwxyz"
theorem abc_len : abc.cps.toList.length = 26 := by decide +kernel
theorem abc_size : abc.length ≤ 100000 := by decide +kernel
theorem abc_ok : ∀ c ∈ abc.cps.toList, PyData.strOk ⟨#[c]⟩ = true := by decide +kernel
def good (w : Str) : Prop := w.length ≤ 12 ∧ PyData.strOk w = true
/-- a word of letters -/
def lett (w : Str) : Prop := 1 ≤ w.length ∧ ∀ c ∈ w.cps.toList, c ∈ abc.cps.toList
theorem mul_nn {a b : Int} (ha : 0 ≤ a ∧ a < 10 ^ 40) (hb : 0 ≤ b ∧ b < 10 ^ 40) : D.mul (.int a) (.int b) = .ok (.int (a * b)) := by
  have h : (10 : Int) ^ 40 < 2 ^ 250 := by decide
  exact mul_small (by omega) (by omega)
theorem name_eq (c : Int) (hc : 0 ≤ c ∧ c < 10 ^ 20) : ∃ w, good w ∧ lett w ∧ m__law_name (.int c) = .ok (.str w) := by
  obtain ⟨n, en, hn⟩ := emod_nat (c := c) (m := 12) (by decide)
  have en' : (1 : Int) + c % 12 = ((1 + n : Nat) : Int) := by
    have : c % 12 = (n : Int) := en
    omega
  simp -implicitDefEqProofs only [m__law_name, bind_ok, mod_int (show (0 : Int) < 12 by decide), Lk.add_int, en', range1_nat (show 1 + n ≤ 100000 by omega)]
  rw [fin_bind]
  refine loopP_range (fun z => ∃ w, good w ∧ lett w ∧ z = .ok (D.str w)) (fun j s => ∃ (sd : Int) (w : Str), s = (.int sd, .str w) ∧ (0 ≤ sd ∧ sd < 10 ^ 20) ∧ w.length = j ∧ PyData.strOk w = true ∧ ∀ c ∈ w.cps.toList, c ∈ abc.cps.toList) ⟨c, _, rfl, hc, rfl, by decide +kernel, by decide +kernel⟩ ?_ ?_
  · rintro j hj _ ⟨sd, w, rfl, hs, hw, ho, hlt⟩
    have h40 : (10 : Int) ^ 20 + 1 < 10 ^ 40 := by decide
    have km : D.mul (.int (sd + 1)) (.int 48271) = .ok (.int ((sd + 1) * 48271)) := mul_nn (by omega) (by decide)
    obtain ⟨i, ei, hi⟩ := emod_nat (c := (sd + 1) * 48271 % 2147483647) (m := 26) (by decide)
    have ei' : (sd + 1) * 48271 % 2147483647 % 26 = (i : Int) := ei
    have hi' : i < abc.cps.toList.length := by rw [abc_len]; exact hi
    have it : D.item (.str (Str.ofString "abcdefghijklmnopqrstuvwxyz")) (.int (i : Int)) = _ := item_str (s := abc) hi' abc_size
    simp -implicitDefEqProofs only [bind_ok, Lk.add_int, km, mod_int (show (0 : Int) < 2147483647 by decide), mod_int (show (0 : Int) < 26 by decide), ei', it, add_str (show w.length + (⟨#[abc.cps.toList[i]]⟩ : Str).length ≤ 100000 by rw [one_len]; omega)]
    refine ⟨_, rfl, _, _, rfl, ?_, by rw [strcat_len, hw, one_len], by rw [strOk_cat, ho, abc_ok _ (List.getElem_mem _)]; rfl, fun x hx => ?_⟩
    · have : (2147483647 : Int) < 10 ^ 20 := by decide
      omega
    · have e : (w ++ (⟨#[abc.cps.toList[i]]⟩ : Str)).cps.toList = w.cps.toList ++ [abc.cps.toList[i]] := Array.toList_append
      rw [e] at hx
      rcases List.mem_append.mp hx with q | q
      · exact hlt x q
      · rw [List.mem_singleton.mp q]; exact List.getElem_mem _
  · rintro _ ⟨sd, w, rfl, hs, hw, ho, hlt⟩
    exact ⟨w, ⟨by omega, ho⟩, ⟨by omega, hlt⟩, by simp -implicitDefEqProofs only [then_nx, bind_ok, fin_rt]⟩
inductive En
  | pr (k n : Str)
  | am (k n : Str) (a : Int)
  | co (n m : Str) (st : List (Str × Str))
  | ni (w : List (Int × Int))
def encS (p : Str × Str) : D := .tup [.str p.1, .str p.2]
def encI (p : Int × Int) : D := .tup [.int p.1, .int p.2]
def enc : En → D
  | .pr k n => .tup [.str k, .str n]
  | .am k n a => .tup [.str k, .str n, .int a]
  | .co n m st => .tup [.str (S' "come"), .str n, .str m, .tup (st.map encS)]
  | .ni w => .tup [.str (S' "night"), .tup (w.map encI)]
abbrev ts (a : Int) : Str := Str.ofString (toString a)
def few (a : Int) : Prop := 0 ≤ a ∧ a < 10 ^ 12
def ok : En → Prop
  | .pr k n => (k = S' "pass" ∨ k = S' "let") ∧ good n
  | .am k n a => (k = S' "take" ∨ k = S' "rain") ∧ good n ∧ few a
  | .co n m st => good n ∧ good m ∧ st.length ≤ 8 ∧ ∀ p ∈ st, good p.1 ∧ good p.2
  | .ni w => w.length ≤ 8 ∧ ∀ p ∈ w, few p.1 ∧ few p.2
def way (w : Str) : Prop := w = S' "up" ∨ w = S' "down"
def nm : En → Prop
  | .pr _ n => lett n
  | .am _ n _ => lett n
  | .co n m st => lett n ∧ lett m ∧ 1 ≤ st.length ∧ ∀ p ∈ st, lett p.1 ∧ way p.2
  | .ni w => 1 ≤ w.length
def words : En → List Str
  | .pr k n => [k, n]
  | .am k n a => [k, n, ts a]
  | .co n m st => [S' "come", n, m] ++ st.flatMap fun p => [p.1, p.2]
  | .ni w => [S' "night"] ++ w.flatMap fun p => [ts p.1, ts p.2]
theorem inner_S {B T : Type} {st : List (Str × Str)} {ws : List Str} {step : List D → D → Res (Out (List D) (List D) T)} (h : ws.length + 2 * st.length ≤ 1000)
    (hs : ∀ l : List Str, l.length ≤ 1000 → ∀ x ∈ st, step (l.map D.str) (encS x) = .ok (.nx ((l ++ [x.1, x.2]).map D.str))) : (loopR step (st.map encS) (ws.map D.str) : Res (Out (List D) B T)) = .ok (.nx ((ws ++ st.flatMap fun p => [p.1, p.2]).map D.str)) :=
  loopR_words (S' := Unit) encS (fun p => [p.1, p.2]) st ws (fun _ => rfl) h hs
theorem inner_I {B T : Type} {st : List (Int × Int)} {ws : List Str} {step : List D → D → Res (Out (List D) (List D) T)} (h : ws.length + 2 * st.length ≤ 1000)
    (hs : ∀ l : List Str, l.length ≤ 1000 → ∀ x ∈ st, step (l.map D.str) (encI x) = .ok (.nx ((l ++ [ts x.1, ts x.2]).map D.str))) : (loopR step (st.map encI) (ws.map D.str) : Res (Out (List D) B T)) = .ok (.nx ((ws ++ st.flatMap fun p => [ts p.1, ts p.2]).map D.str)) :=
  loopR_words (S' := Unit) encI (fun p => [ts p.1, ts p.2]) st ws (fun _ => rfl) h hs
theorem two_S (p : Str × Str) : D.item (encS p) (.int 0) = .ok (.str p.1) ∧ D.item (encS p) (.int 1) = .ok (.str p.2) := ⟨rfl, rfl⟩
theorem two_I (p : Int × Int) : D.item (encI p) (.int 0) = .ok (.int p.1) ∧ D.item (encI p) (.int 1) = .ok (.int p.2) := ⟨rfl, rfl⟩
@[simp] theorem tup_str (z : Str) : D.isT "tuple" (.str z) = .ok (.bl false) := rfl
@[simp] theorem tup_int (z : Int) : D.isT "tuple" (.int z) = .ok (.bl false) := rfl
theorem words_eq (e : En) (h : ok e) : m__law_words (enc e) = .ok (.lst ((words e).map D.str)) := by
  cases e with
  | pr k n =>
    simp -implicitDefEqProofs only [m__law_words, enc, bind_ok, sized_0, seq_tup, loopR_cons, loopR_nil, tup_str, truth_bl, Bool.false_eq_true, if_false, toStrA_str, push_0, push_1, then_nx, fin_rt]
    rfl
  | am k n a =>
    have ha := h.2.2
    simp -implicitDefEqProofs only [m__law_words, enc, bind_ok, sized_0, seq_tup, loopR_cons, loopR_nil, tup_str, tup_int, truth_bl, Bool.false_eq_true, if_false, toStrA_str, ts_eq ha.1 ha.2, push_0, push_1, push_2, then_nx, fin_rt]
    rfl
  | co n m st =>
    simp -implicitDefEqProofs only [m__law_words, enc, bind_ok, sized_0, seq_tup, loopR_cons, loopR_nil, tup_str, isTup_tup, truth_bl, Bool.false_eq_true, if_false, if_true, toStrA_str, push_0, push_1, push_2, then_nx]
    rw [show [D.str (S' "come"), D.str n, D.str m] = [S' "come", n, m].map D.str from rfl, inner_S (by simp; have := h.2.2.1; omega) (fun l hl x _ => by
      simp -implicitDefEqProofs only [bind_ok, two_S, toStrA_str, push_str (show l.length < 100000 by omega), push_str (show (l ++ [x.1]).length < 100000 by rw [List.length_append]; simp; omega)]
      rw [List.append_assoc]
      rfl)]
    simp -implicitDefEqProofs only [bind_ok, then_nx, fin_rt]
    rfl
  | ni w =>
    simp -implicitDefEqProofs only [m__law_words, enc, bind_ok, sized_0, seq_tup, loopR_cons, loopR_nil, tup_str, isTup_tup, truth_bl, Bool.false_eq_true, if_false, if_true, toStrA_str, push_0, push_1, push_2, then_nx]
    rw [show [D.str (S' "night")] = [S' "night"].map D.str from rfl, inner_I (by simp; have := h.1; omega) (fun l hl x hx => by
      obtain ⟨h1, h2⟩ := h.2 x hx
      simp -implicitDefEqProofs only [bind_ok, two_I, ts_eq h1.1 h1.2, ts_eq h2.1 h2.2, push_str (show l.length < 100000 by omega), push_str (show (l ++ [ts x.1]).length < 100000 by rw [List.length_append]; simp; omega)]
      rw [List.append_assoc]
      rfl)]
    simp -implicitDefEqProofs only [bind_ok, then_nx, fin_rt]
    rfl
end Lw
namespace Lw
open PySem Lk
theorem sp_len : (S' " ").length = 1 := by decide +kernel
theorem nl_len : (S' "\n").length = 1 := by decide +kernel
theorem em_len : (S' "").length = 0 := by decide +kernel
theorem kw_len : (S' "come").length ≤ 12 ∧ (S' "night").length ≤ 12 ∧ (S' "pass").length ≤ 12 ∧ (S' "let").length ≤ 12 ∧ (S' "take").length ≤ 12 ∧ (S' "rain").length ≤ 12 := by decide +kernel
theorem kw_ok : PyData.strOk (S' "come") = true ∧ PyData.strOk (S' "night") = true ∧ PyData.strOk (S' "pass") = true ∧ PyData.strOk (S' "let") = true ∧ PyData.strOk (S' "take") = true ∧ PyData.strOk (S' "rain") = true := by decide +kernel
theorem q1 : (S' "pass" == S' "night") = false ∧ (S' "let" == S' "night") = false ∧ (S' "take" == S' "night") = false ∧ (S' "rain" == S' "night") = false ∧ (S' "come" == S' "night") = false := by decide +kernel
theorem q2 : (S' "pass" == S' "come") = false ∧ (S' "let" == S' "come") = false ∧ (S' "take" == S' "come") = false ∧ (S' "rain" == S' "come") = false := by decide +kernel
theorem q3 : (S' "pass" == S' "take") = false ∧ (S' "let" == S' "take") = false ∧ (S' "rain" == S' "take") = false ∧ (S' "come" == S' "take") = false := by decide +kernel
theorem q4 : (S' "pass" == S' "rain") = false ∧ (S' "let" == S' "rain") = false ∧ (S' "come" == S' "rain") = false := by decide +kernel
def shortW (e : En) : Prop := (words e).length ≤ 20 ∧ ∀ w ∈ words e, w.length ≤ 12
theorem flat2 {α : Type} {g : α → List Str} (hg : ∀ x, (g x).length = 2) : ∀ xs : List α, (xs.flatMap g).length = 2 * xs.length
  | [] => by simp
  | x :: xs => by rw [List.flatMap_cons, List.length_append, hg, flat2 hg xs, List.length_cons]; omega
theorem short (e : En) (h : ok e) : shortW e := by
  obtain ⟨l1, l2, l3, l4, l5, l6⟩ := kw_len
  cases e with
  | pr k n =>
    refine ⟨by show 2 ≤ 20; omega, fun w hw => ?_⟩
    rcases List.mem_cons.mp hw with rfl | hw
    · rcases h.1 with rfl | rfl
      · exact l3
      · exact l4
    · rw [List.mem_singleton.mp hw]; exact h.2.1
  | am k n a =>
    refine ⟨by show 3 ≤ 20; omega, fun w hw => ?_⟩
    rcases List.mem_cons.mp hw with rfl | hw
    · rcases h.1 with rfl | rfl
      · exact l5
      · exact l6
    · rcases List.mem_cons.mp hw with rfl | hw
      · exact h.2.1.1
      · rw [List.mem_singleton.mp hw]; exact ts_len h.2.2.1 h.2.2.2
  | co n m st =>
    obtain ⟨h1, h2, h3, h4⟩ := h
    refine ⟨?_, fun w hw => ?_⟩
    · show ([S' "come", n, m] ++ st.flatMap fun p => [p.1, p.2]).length ≤ 20
      rw [List.length_append, flat2 (fun _ => rfl)]
      simp
      omega
    · rcases List.mem_append.mp hw with hw | hw
      · rcases List.mem_cons.mp hw with rfl | hw
        · exact l1
        · rcases List.mem_cons.mp hw with rfl | hw
          · exact h1.1
          · rw [List.mem_singleton.mp hw]; exact h2.1
      · obtain ⟨p, hp, hw⟩ := List.mem_flatMap.mp hw
        rcases List.mem_cons.mp hw with rfl | hw
        · exact (h4 p hp).1.1
        · rw [List.mem_singleton.mp hw]; exact (h4 p hp).2.1
  | ni ws =>
    obtain ⟨h3, h4⟩ := h
    refine ⟨?_, fun w hw => ?_⟩
    · show ([S' "night"] ++ ws.flatMap fun p => [ts p.1, ts p.2]).length ≤ 20
      rw [List.length_append, flat2 (fun _ => rfl)]
      simp
      omega
    · rcases List.mem_append.mp hw with hw | hw
      · rw [List.mem_singleton.mp hw]; exact l2
      · obtain ⟨p, hp, hw⟩ := List.mem_flatMap.mp hw
        rcases List.mem_cons.mp hw with rfl | hw
        · exact ts_len (h4 p hp).1.1 (h4 p hp).1.2
        · rw [List.mem_singleton.mp hw]; exact ts_len (h4 p hp).2.1 (h4 p hp).2.2
def rowT (e : En) : Str := Txt.join (S' " ") (words e)
theorem row_len (e : En) (h : ok e) : (rowT e).length ≤ 500 := by
  obtain ⟨a, b⟩ := short e h
  have := tjoin_len (S' " ") (words e)
  have s := sum_le (n := 12) (words e) b
  rw [sp_len] at this
  unfold rowT
  omega
theorem join_row (e : En) (h : ok e) : D.join (.str (S' " ")) (.lst ((words e).map D.str)) = .ok (.str (rowT e)) := by
  obtain ⟨a, b⟩ := short e h
  have s := sum_le (n := 12) (words e) b
  exact join_ok (by rw [sp_len]; omega)
end Lw
namespace Lw
open PySem Lk
theorem fd {a b : Int} (h : 0 < b) (h2 : b < 1000000) : D.fdiv (.int a) (.int b) = .ok (.int (a / b)) := fdiv_small h (Int.lt_trans h2 (by decide))
theorem ten12 : D.pow (.int 10) (.int 12) = .ok (.int (10 ^ 12)) := pow_small (by decide) (by decide) (by decide)
theorem ten24 : D.pow (.int 10) (.int 24) = .ok (.int (10 ^ 24)) := pow_small (by decide) (by decide) (by decide)
theorem ud_good : good (S' "up") ∧ good (S' "down") := by
  refine ⟨⟨?_, ?_⟩, ⟨?_, ?_⟩⟩ <;> decide +kernel
theorem ud_item (c : Int) : ∃ w, good w ∧ way w ∧ D.item (.lst [.str (S' "up"), .str (S' "down")]) (.int (c % 2)) = .ok (.str w) := by
  rcases Int.emod_two_eq c with e | e <;> rw [e]
  · exact ⟨_, ud_good.1, .inl rfl, rfl⟩
  · exact ⟨_, ud_good.2, .inr rfl, rfl⟩
theorem come_eq (c s : Int) (hs : 0 ≤ s ∧ s < 2147483648) (n : Nat) (hn : n ≤ 8) : True := trivial
theorem entry_eq (c : Int) : ∃ e, ok e ∧ nm e ∧ m__law_entry (.int c) = .ok (enc e) := by
  have big : (2147483648 : Int) < 10 ^ 20 := by decide
  obtain ⟨s, es⟩ : ∃ s, s = c / 6 % 2147483629 := ⟨_, rfl⟩
  have hs : 0 ≤ s ∧ s < 2147483629 := by omega
  obtain ⟨n, en, hn⟩ := emod_nat (c := s) (m := 8) (by decide)
  have en' : (1 : Int) + s % 8 = ((1 + n : Nat) : Int) := by
    have : s % 8 = (n : Int) := en
    omega
  have hf : few (if (s % 7 == 1) = true then 999999999999 else c / 42 % 1000000000000) := by
    unfold few
    split
    · exact ⟨by decide, by decide⟩
    · omega
  obtain ⟨n1, g1, l1, e1⟩ := name_eq (c / 48 % 2147483629) ⟨by omega, by omega⟩
  obtain ⟨n2, g2, l2, e2⟩ := name_eq (c / 96 % 1000003) ⟨by omega, by omega⟩
  obtain ⟨n3, g3, l3, e3⟩ := name_eq s ⟨by omega, by omega⟩
  obtain ⟨n4, g4, l4, e4⟩ := name_eq (c / 7 % 2147483629) ⟨by omega, by omega⟩
  simp -implicitDefEqProofs only [m__law_entry, bind_ok, fd (show (0 : Int) < 6 by decide) (show (6 : Int) < 1000000 by decide), mod_int (show (0 : Int) < 2147483629 by decide), ← es, fd (show (0 : Int) < 42 by decide) (show (42 : Int) < 1000000 by decide), mod_int (show (0 : Int) < 1000000000000 by decide), mod_int (show (0 : Int) < 7 by decide), Lk.eq_int, toB_bl, ite_nx, ite_int, then_nx, mod_int (show (0 : Int) < 6 by decide)]
  generalize (if (s % 7 == 1) = true then 999999999999 else c / 42 % 1000000000000) = a at hf
  by_cases z0 : (c % 6 == 0) = true
  · simp -implicitDefEqProofs only [z0, if_true, sized_0, bind_ok, mod_int (show (0 : Int) < 8 by decide), Lk.add_int, en', range1_nat (show 1 + n ≤ 100000 by omega)]
    unfold Res.up
    simp -implicitDefEqProofs only [bind_assoc']
    rw [fin_bind]
    refine loopP_range (fun z => ∃ e, ok e ∧ nm e ∧ z = .ok (enc e)) (fun j t => ∃ (sd : Int) (st : List (Str × Str)), t = (.int sd, st.map encS) ∧ (0 ≤ sd ∧ sd < 2147483648) ∧ st.length = j ∧ ∀ p ∈ st, (good p.1 ∧ good p.2) ∧ lett p.1 ∧ way p.2) ⟨s, [], rfl, by omega, rfl, by simp⟩ ?_ ?_
    · rintro j hj _ ⟨sd, st, rfl, hsd, hl, hg⟩
      have h40 : (2147483649 : Int) < 10 ^ 40 := by decide
      have km : D.mul (.int (sd + 1)) (.int 69621) = .ok (.int ((sd + 1) * 69621)) := mul_nn (by omega) (by decide)
      obtain ⟨w, gw, lw, ew⟩ := name_eq ((sd + 1) * 69621 % 2147483647) ⟨by omega, by omega⟩
      obtain ⟨u, gu, wu, eu⟩ := ud_item ((sd + 1) * 69621 % 2147483647 / 12)
      simp -implicitDefEqProofs only [bind_ok, Lk.add_int, km, mod_int (show (0 : Int) < 2147483647 by decide), F1_eq, ew, sized_2, fd (show (0 : Int) < 12 by decide) (show (12 : Int) < 1000000 by decide), mod_int (show (0 : Int) < 2 by decide), eu]
      rw [pushR_ok (by rw [List.length_map]; omega), bind_ok]
      refine ⟨_, rfl, _, st ++ [(w, u)], by rw [List.map_append]; rfl, by omega, by rw [List.length_append, hl]; rfl, fun p hp => ?_⟩
      rcases List.mem_append.mp hp with q | q
      · exact hg p q
      · rw [List.mem_singleton.mp q]; exact ⟨⟨gw, gu⟩, lw, wu⟩
    · rintro _ ⟨sd, st, rfl, hsd, hl, hg⟩
      refine ⟨.co n1 n2 st, ⟨g1, g2, by omega, fun p hp => (hg p hp).1⟩, ⟨l1, l2, by omega, fun p hp => (hg p hp).2⟩, ?_⟩
      simp -implicitDefEqProofs only [then_nx, bind_ok, fd (show (0 : Int) < 48 by decide) (show (48 : Int) < 1000000 by decide), mod_int (show (0 : Int) < 2147483629 by decide), F1_eq, e1, fd (show (0 : Int) < 96 by decide) (show (96 : Int) < 1000000 by decide), mod_int (show (0 : Int) < 1000003 by decide), e2, toTup_lst, sized_4, oup_rt, fin_rt]
      rfl
  · by_cases z3 : (c % 6 == 3) = true
    · simp -implicitDefEqProofs only [z0, z3, if_true, Bool.false_eq_true, if_false, fd (show (0 : Int) < 48 by decide) (show (48 : Int) < 1000000 by decide), ten24, mod_int (show (0 : Int) < 10 ^ 24 by decide), sized_0, bind_ok, mod_int (show (0 : Int) < 8 by decide), Lk.add_int, en', range1_nat (show 1 + n ≤ 100000 by omega)]
      unfold Res.up
      simp -implicitDefEqProofs only [bind_assoc']
      rw [fin_bind]
      refine loopP_range (fun z => ∃ e, ok e ∧ nm e ∧ z = .ok (enc e)) (fun j t => ∃ (rs : Int) (w : List (Int × Int)), t = (w.map encI, .int rs) ∧ w.length = j ∧ ∀ p ∈ w, few p.1 ∧ few p.2) ⟨_, [], rfl, rfl, by simp⟩ ?_ ?_
      · rintro j hj _ ⟨rs, w, rfl, hl, hg⟩
        have h40 : (10 : Int) ^ 12 < 10 ^ 40 := by decide
        have hf2 := hf
        unfold few at hf2
        have km : D.mul (.int ((j : Int) + 1)) (.int a) = .ok (.int (((j : Int) + 1) * a)) := mul_nn (by omega) (by omega)
        simp -implicitDefEqProofs only [bind_ok, ten12, mod_int (show (0 : Int) < 10 ^ 12 by decide), fd (show (0 : Int) < 1000 by decide) (show (1000 : Int) < 1000000 by decide), sized_2]
        rw [pushR_ok (by rw [List.length_map]; omega)]
        simp -implicitDefEqProofs only [bind_ok, fd (show (0 : Int) < 100000 by decide) (show (100000 : Int) < 1000000 by decide), Lk.add_int, km]
        refine ⟨_, rfl, _, w ++ [(rs % 10 ^ 12, rs / 1000 % 10 ^ 12)], by rw [List.map_append]; rfl, by rw [List.length_append, hl]; rfl, fun p hp => ?_⟩
        rcases List.mem_append.mp hp with q | q
        · exact hg p q
        · rw [List.mem_singleton.mp q]
          exact ⟨⟨Int.emod_nonneg _ (by decide), Int.emod_lt_of_pos _ (by decide)⟩, ⟨Int.emod_nonneg _ (by decide), Int.emod_lt_of_pos _ (by decide)⟩⟩
      · rintro _ ⟨rs, w, rfl, hl, hg⟩
        refine ⟨.ni w, ⟨by omega, hg⟩, (show 1 ≤ w.length by omega), ?_⟩
        simp -implicitDefEqProofs only [then_nx, bind_ok, toTup_lst, sized_2, oup_rt, fin_rt]
        rfl
    · have m0 : ¬ c % 6 = 0 := by simpa using z0
      have m3 : ¬ c % 6 = 3 := by simpa using z3
      by_cases z : c % 6 < 3
      · have hk : ∃ k, (k = S' "pass" ∨ k = S' "let") ∧ D.item (.lst [.str (S' ""), .str (S' "pass"), .str (S' "let")]) (.int (c % 6)) = .ok (.str k) := by
          rcases (by omega : c % 6 = 1 ∨ c % 6 = 2) with e | e <;> rw [e]
          · exact ⟨_, .inl rfl, rfl⟩
          · exact ⟨_, .inr rfl, rfl⟩
        obtain ⟨k, hk, ek⟩ := hk
        refine ⟨.pr k n3, ⟨hk, g3⟩, l3, ?_⟩
        simp -implicitDefEqProofs only [z0, z3, Bool.false_eq_true, if_false, bind_ok, Lk.lt_int', toB_bl, decide_eq_true z, if_true, sized_3, ek, F1_eq, e3, sized_2, up_ok, oup_rt, fin_rt]
        rfl
      · have hk : ∃ k, (k = S' "take" ∨ k = S' "rain") ∧ D.item (.lst [.str (S' "take"), .str (S' "rain")]) (.int (c % 6 - 4)) = .ok (.str k) := by
          rcases (by omega : c % 6 - 4 = 0 ∨ c % 6 - 4 = 1) with e | e <;> rw [e]
          · exact ⟨_, .inl rfl, rfl⟩
          · exact ⟨_, .inr rfl, rfl⟩
        obtain ⟨k, hk, ek⟩ := hk
        refine ⟨.am k n4 a, ⟨hk, g4, hf⟩, l4, ?_⟩
        simp -implicitDefEqProofs only [z0, z3, Bool.false_eq_true, if_false, bind_ok, Lk.lt_int', toB_bl, decide_eq_false z, sized_2, Lk.sub_int, ek, fd (show (0 : Int) < 7 by decide) (show (7 : Int) < 1000000 by decide), mod_int (show (0 : Int) < 2147483629 by decide), F1_eq, e4, sized_3, fin_rt]
        rfl
def line (e : En) : Str := rowT e ++ S' "\n"
theorem line_len (e : En) (h : ok e) : (line e).length ≤ 501 := by
  have := row_len e h
  unfold line
  rw [strcat_len, nl_len]
  omega
theorem add_line (e : En) (h : ok e) : D.add (.str (rowT e)) (.str (S' "\n")) = .ok (.str (line e)) := add_str (by have := row_len e h; rw [nl_len]; omega)
theorem join_all {es : List En} (h : ∀ e ∈ es, ok e) (hl : es.length ≤ 100) : D.join (.str (S' "")) (.lst ((es.map line).map D.str)) = .ok (.str (Txt.join (S' "") (es.map line))) := by
  have s := sum_le (n := 501) (es.map line) (by
    intro x hx
    obtain ⟨e, he, rfl⟩ := List.mem_map.mp hx
    exact line_len e (h e he))
  rw [List.length_map] at s
  refine join_ok ?_
  rw [em_len, List.length_map]
  omega
theorem strs_line (es : List En) : es.map (fun e => D.str (line e)) = (es.map line).map D.str := by rw [List.map_map]; rfl
theorem fit_str {n : Nat} {x : Str} (h : PyData.strOk x = true) : D.fit n (.str x) = true := by
  cases n <;> exact h
theorem fit_enc (e : En) (h : ok e) : D.fit 19 (enc e) = true := by
  obtain ⟨o1, o2, o3, o4, o5, o6⟩ := kw_ok
  cases e with
  | pr k n =>
    have hk : PyData.strOk k = true := by rcases h.1 with rfl | rfl <;> assumption
    show [D.str k, D.str n].all (D.fit 18) = true
    simp [fit_str hk, fit_str h.2.2]
  | am k n a =>
    have hk : PyData.strOk k = true := by rcases h.1 with rfl | rfl <;> assumption
    show [D.str k, D.str n, D.int a].all (D.fit 18) = true
    simp [fit_str hk, fit_str h.2.1.2]
  | co n m st =>
    have q : D.fit 18 (.tup (st.map encS)) = true := fit_tup (n := 17) fun p hp => by
      show [D.str p.1, D.str p.2].all (D.fit 16) = true
      simp [fit_str (h.2.2.2 p hp).1.2, fit_str (h.2.2.2 p hp).2.2]
    show [D.str (S' "come"), D.str n, D.str m, D.tup (st.map encS)].all (D.fit 18) = true
    simp only [List.all_cons, List.all_nil, fit_str o1, fit_str h.1.2, fit_str h.2.1.2, q, Bool.and_self]
  | ni w =>
    have q : D.fit 18 (.tup (w.map encI)) = true := fit_tup (n := 17) fun p hp => by
      show [D.int p.1, D.int p.2].all (D.fit 16) = true
      simp
    show [D.str (S' "night"), D.tup (w.map encI)].all (D.fit 18) = true
    simp only [List.all_cons, List.all_nil, fit_str o2, q, Bool.and_self]
@[simp] theorem isStr_str (z : Str) : D.isT "str" (.str z) = .ok (.bl true) := rfl
end Lw
namespace Lk
open PySem PySem.Spec PyProof.Rows L2
theorem sp_split {s : Nat} {y : Str} (ey : TL.tl y = [s]) (hk : y.cps.all (· < 256) = true) {parts : List Str} (hne : parts ≠ []) (hp : ∀ p ∈ parts, s ∉ TL.tl p) : Txt.split (Txt.join y parts) y = parts :=
  TL.split_join ey hk hne hp
end Lk
namespace Lw
open PySem Lk
def cl (x : Str) : List Nat := x.cps.toList
def num (n : Nat) : Str := Str.ofString (toString (n : Int))
def figs : Str := Str.ofString "0123456789"
theorem num_cl (n : Nat) : cl (num n) = (Nat.toDigits 10 n).map Char.toNat := PySem.W.KIN.signs_num n
theorem num_dig {n : Nat} {c : Nat} (h : c ∈ cl (num n)) : 48 ≤ c ∧ c ≤ 57 := by
  rw [num_cl] at h
  obtain ⟨ch, hc, rfl⟩ := List.mem_map.mp h
  have d := Nat.isDigit_of_mem_toDigits (by decide) (by decide) hc
  simp only [Char.isDigit, Bool.and_eq_true, decide_eq_true_eq] at d
  exact ⟨d.1, d.2⟩
theorem num_len {n : Nat} (h : n < 10 ^ 12) : (num n).length ≤ 12 := ts_len (by omega) (by omega)
theorem cl_len (x : Str) : (cl x).length = x.length := by simp [cl, Str.length]
theorem num_pos (n : Nat) : 1 ≤ (cl (num n)).length := by
  rw [num_cl, List.length_map]
  exact toDigits_len_ge 10 n
theorem num_ne (n : Nat) : cl (num n) ≠ [] := fun e => by have := num_pos n; rw [e] at this; exact absurd this (by decide)
theorem num_int {n : Nat} (h : n < 10 ^ 12) : PySem.intText? (num n) = some (n : Int) := by
  have hd : PySem.NumText.AllDigits (num n).cps.toList := fun c hc => num_dig hc
  have e := PySem.intText_digits hd (num_ne n) (Nat.le_trans (num_len h) (by decide))
  have e2 : (num n).cps.toList = (Nat.toDigits 10 n).map Char.toNat := num_cl n
  rw [e2, PySem.W.KIN.val_back] at e
  exact e
theorem num_lead {n : Nat} {r : List Nat} (e : cl (num n) = 48 :: r) : r = [] := by
  have hd : PySem.NumText.AllDigits (cl (num n)) := fun c hc => num_dig hc
  have t := PySem.NumText.toDigits_all (cl (num n)) hd
  have e2 := num_cl n
  rw [e2, PySem.W.KIN.val_back, ← e2, e] at t
  have l1 : (Nat.toDigits 10 n).length = r.length + 1 := by
    have := congrArg List.length e2
    rw [e, List.length_map] at this
    simpa using this.symm
  have dw : (48 :: r).dropWhile (· == 48) = r.dropWhile (· == 48) := by rw [List.dropWhile_cons]; rfl
  have le : (r.dropWhile (· == 48)).length ≤ r.length := (List.dropWhile_sublist _).length_le
  rw [dw] at t
  cases r with
  | nil => rfl
  | cons c r =>
    exfalso
    split at t
    · rw [t] at l1
      simp at l1
    · rename_i c' r' q
      rw [q] at le
      rw [t] at l1
      simp at l1 le
      omega
theorem figs_cl : figs.cps.toList = [48, 49, 50, 51, 52, 53, 54, 55, 56, 57] := by decide +kernel
theorem dig_figs {c : Nat} (h : 48 ≤ c ∧ c ≤ 57) : c ∈ figs.cps.toList := by
  rw [figs_cl]
  have : c = 48 ∨ c = 49 ∨ c = 50 ∨ c = 51 ∨ c = 52 ∨ c = 53 ∨ c = 54 ∨ c = 55 ∨ c = 56 ∨ c = 57 := by omega
  simp only [List.mem_cons]
  omega
def allS (g w : Str) : Bool := w.cps.toList.all fun c => decide (c ∈ g.cps.toList)
theorem made_gen (g w : Str) (h : w.length ≤ 1000) : m_made_of (.str w) (.str g) = .ok (.bl (allS g w && (decide (1 ≤ (w.length : Int)) && decide ((w.length : Int) ≤ 12)))) := by
  simp -implicitDefEqProofs only [m_made_of, bind_ok, seq_str]
  rw [loop_all (S' := Unit) (fun c => decide (c ∈ g.cps.toList)) w.cps.toList (fun c _ => by
    simp -implicitDefEqProofs only [notin_sign, bind_ok, toB_bl, up_ok, oup_rt]
    cases decide (c ∈ g.cps.toList) <;> rfl)]
  show fin ((if allS g w = true then _ else _) >>= _) = _
  cases allS g w
  · rfl
  · simp -implicitDefEqProofs only [if_true, bind_ok, then_nx, len_str (show w.length ≤ 100000 by omega), Lk.le_int', toB_bl, ite_andD, fin_rt, Bool.true_and]
def allF (w : Str) : Bool := allS figs w
theorem made_eq (w : Str) (h : w.length ≤ 1000) : m_made_of (.str w) (.str figs) = .ok (.bl (allF w && (decide (1 ≤ (w.length : Int)) && decide ((w.length : Int) ≤ 12)))) := made_gen figs w h
theorem name_ok {w : Str} (h : lett w) (hl : w.length ≤ 12) : m_name_of (.str w) = .ok (.str w) := by
  have a : allS abc w = true := List.all_eq_true.mpr fun c hc => decide_eq_true (h.2 c hc)
  have me := made_gen abc w (by omega)
  have := h.1
  rw [a, decide_eq_true (show (1 : Int) ≤ (w.length : Int) by omega), decide_eq_true (show (w.length : Int) ≤ 12 by omega)] at me
  simp -implicitDefEqProofs only [m_name_of, m_is_name, bind_ok, F1_eq, F2_eq, show m_made_of (.str w) (.str (Str.ofString "abcdefghijklmnopqrstuvwxyz")) = _ from me, fin_rt, truth_bl, Bool.and_self, Bool.not_true, Bool.false_eq_true, if_false]
theorem toInt_str {w : Str} {n : Int} (h : PySem.intText? w = some n) (hl : w.length ≤ 640) : D.toInt [.str w] = .ok (.int n) := by
  show (if w.length ≤ 640 then (match PySem.intText? w with | some n => Res.ok (D.int n) | none => .bug) else .bug) = _
  rw [if_pos hl, h]
theorem number_num {n : Nat} (h : n < 10 ^ 12) : m_number_of (.str (num n)) = .ok (.int (n : Int)) := by
  have hl := num_len h
  have hp := num_pos n
  rw [cl_len] at hp
  have af : allF (num n) = true := List.all_eq_true.mpr fun c hc => decide_eq_true (dig_figs (num_dig hc))
  have me := made_eq (num n) (by omega)
  rw [af, decide_eq_true (show (1 : Int) ≤ ((num n).length : Int) by omega), decide_eq_true (show ((num n).length : Int) ≤ 12 by omega)] at me
  obtain ⟨c, r, ec⟩ : ∃ c r, cl (num n) = c :: r := by
    cases hc : cl (num n) with
    | nil => exact (num_ne n hc).elim
    | cons c r => exact ⟨c, r, rfl⟩
  have it : D.item (.str (num n)) (.int 0) = .ok (.str ⟨#[c]⟩) := by
    have := item_str (s := num n) (i := 0) (by show 0 < (cl (num n)).length; rw [ec]; simp) (by omega)
    have e0 : (num n).cps.toList[0]'(by show 0 < (cl (num n)).length; rw [ec]; simp) = c := by
      have : (cl (num n))[0]'(by rw [ec]; simp) = c := by simp [ec]
      exact this
    rw [e0] at this
    exact this
  have z : S' "0" = ⟨#[48]⟩ := by decide +kernel
  have ti := toInt_str (num_int h) (by omega)
  simp -implicitDefEqProofs only [m_number_of, bind_ok, F2_eq, show m_made_of (.str (num n)) (.str (Str.ofString "0123456789")) = _ from me, truth_bl, Bool.and_self, Bool.not_true, Bool.false_eq_true, if_false, it, Lk.eq_str, toB_bl]
  cases hb : ((⟨#[c]⟩ : Str) == Str.ofString "0") with
  | false => simp -implicitDefEqProofs only [Bool.false_eq_true, if_false, bind_ok, ti, fin_rt]
  | true =>
    have hc : c = 48 := by
      have e : (⟨#[c]⟩ : Str) = Str.ofString "0" := by simpa using hb
      rw [show Str.ofString "0" = (⟨#[48]⟩ : Str) from z] at e
      have := congrArg cl e
      simpa [cl] using this
    subst hc
    have hr := num_lead ec
    subst hr
    have l1 : (num n).length = 1 := by rw [← cl_len, ec]; rfl
    simp -implicitDefEqProofs only [if_true, bind_ok, len_str (show (num n).length ≤ 100000 by omega), l1, Lk.gt_int', toB_bl, ti]
    rfl
end Lw
namespace Lw
open PySem Lk
theorem cl_cat (a b : Str) : cl (a ++ b) = cl a ++ cl b := Array.toList_append
theorem str_ext {a b : Str} (h : cl a = cl b) : a = b := by
  cases a; cases b
  exact congrArg Str.mk (Array.toList_inj.mp h)
theorem mem_join {c : Nat} {a : Str} : ∀ {xs : List Str}, c ∈ cl (Str.join a xs) → c ∈ cl a ∨ ∃ x ∈ xs, c ∈ cl x
  | [], h => by
    have : c ∈ ([] : List Nat) := h
    cases this
  | [x], h => .inr ⟨x, by simp, h⟩
  | x :: y :: r, h => by
    have h : c ∈ cl (x ++ a ++ Str.join a (y :: r)) := h
    rw [cl_cat, cl_cat] at h
    rcases List.mem_append.mp h with h | h
    · rcases List.mem_append.mp h with h | h
      · exact .inr ⟨x, by simp, h⟩
      · exact .inl h
    · rcases mem_join h with h | ⟨z, hz, h⟩
      · exact .inl h
      · exact .inr ⟨z, by simp [hz], h⟩
theorem abc_cl : ∀ c ∈ abc.cps.toList, c ≠ 32 ∧ c ≠ 10 := by decide +kernel
/-- no blank, no line feed -/
def sol (w : Str) : Prop := 32 ∉ cl w ∧ 10 ∉ cl w
theorem sol_lett {w : Str} (h : lett w) : sol w := ⟨fun q => (abc_cl _ (h.2 _ q)).1 rfl, fun q => (abc_cl _ (h.2 _ q)).2 rfl⟩
theorem ts_num {a : Int} (h : few a) : ts a = num a.toNat := by
  unfold num
  rw [Int.toNat_of_nonneg h.1]
theorem sol_ts {a : Int} (h : few a) : sol (ts a) := by
  rw [ts_num h]
  exact ⟨fun q => by have := num_dig q; omega, fun q => by have := num_dig q; omega⟩
theorem sol_kw : sol (S' "come") ∧ sol (S' "night") ∧ sol (S' "pass") ∧ sol (S' "let") ∧ sol (S' "take") ∧ sol (S' "rain") ∧ sol (S' "up") ∧ sol (S' "down") := by
  unfold sol
  decide +kernel
theorem number_ts {a : Int} (h : few a) : m_number_of (.str (ts a)) = .ok (.int a) := by
  have h2 := h.2
  have h1 := h.1
  rw [ts_num h, number_num (by omega), Int.toNat_of_nonneg h.1]
theorem sol_words {e : En} (h : ok e) (n : nm e) : ∀ w ∈ words e, sol w := by
  obtain ⟨l1, l2, l3, l4, l5, l6, l7, l8⟩ := sol_kw
  intro w hw
  cases e with
  | pr k m =>
    rcases List.mem_cons.mp hw with rfl | hw
    · rcases h.1 with rfl | rfl <;> assumption
    · rw [List.mem_singleton.mp hw]; exact sol_lett n
  | am k m a =>
    rcases List.mem_cons.mp hw with rfl | hw
    · rcases h.1 with rfl | rfl <;> assumption
    · rcases List.mem_cons.mp hw with rfl | hw
      · exact sol_lett n
      · rw [List.mem_singleton.mp hw]; exact sol_ts h.2.2
  | co m1 m2 st =>
    obtain ⟨h1, h2, h3, h4⟩ := n
    rcases List.mem_append.mp hw with hw | hw
    · rcases List.mem_cons.mp hw with rfl | hw
      · exact l1
      · rcases List.mem_cons.mp hw with rfl | hw
        · exact sol_lett h1
        · rw [List.mem_singleton.mp hw]; exact sol_lett h2
    · obtain ⟨p, hp, hw⟩ := List.mem_flatMap.mp hw
      rcases List.mem_cons.mp hw with rfl | hw
      · exact sol_lett (h4 p hp).1
      · rw [List.mem_singleton.mp hw]
        rcases (h4 p hp).2 with e | e <;> rw [e] <;> assumption
  | ni ws =>
    rcases List.mem_append.mp hw with hw | hw
    · rw [List.mem_singleton.mp hw]; exact l2
    · obtain ⟨p, hp, hw⟩ := List.mem_flatMap.mp hw
      rcases List.mem_cons.mp hw with rfl | hw
      · exact sol_ts (h.2 p hp).1
      · rw [List.mem_singleton.mp hw]; exact sol_ts (h.2 p hp).2
theorem words_ne (e : En) : words e ≠ [] := by cases e <;> simp [words]
theorem sp_cl : cl (S' " ") = [32] := by decide +kernel
theorem sp_k : (S' " ").cps.all (· < 256) = true := by decide +kernel
theorem sp_l : ((S' " ").length == 0) = false := by decide +kernel
theorem nl_cl : cl (S' "\n") = [10] := by decide +kernel
theorem nl_k : (S' "\n").cps.all (· < 256) = true := by decide +kernel
theorem nl_l : ((S' "\n").length == 0) = false := by decide +kernel
theorem row_split {e : En} (h : ok e) (n : nm e) : D.split (.str (rowT e)) (.str (S' " ")) = .ok ((words e).map D.str) := by
  have hl := row_len e h
  rw [split_ok sp_l (by omega)]
  refine congrArg (fun z : List Str => Res.ok (z.map D.str)) ?_
  exact sp_split sp_cl sp_k (words_ne e) fun p hp => (sol_words h n p hp).1
theorem row_nl {e : En} (h : ok e) (n : nm e) : 10 ∉ cl (rowT e) := by
  intro q
  unfold rowT at q
  rw [tjoin_eq] at q
  rcases mem_join q with q | ⟨w, hw, q⟩
  · rw [sp_cl] at q; simp at q
  · exact (sol_words h n w hw).2 q
theorem row_ne {e : En} (h : ok e) (n : nm e) : ¬ rowT e = S' "" := by
  intro q
  have e1 := row_split h n
  rw [q] at e1
  have : D.split (.str (S' "")) (.str (S' " ")) = .ok [.str (S' "")] := rfl
  rw [this] at e1
  have l := congrArg (fun z => match z with | Res.ok ds => ds.length | _ => 0) e1
  simp only [List.length_map, List.length_cons, List.length_nil] at l
  cases e with
  | pr k m => simp [words] at l
  | am k m a => simp [words] at l
  | co m1 m2 st => simp [words] at l
  | ni ws =>
    have : 1 ≤ ws.length := n
    rw [words, List.length_append, flat2 (fun _ => rfl)] at l
    simp at l
    omega
abbrev flat (ps : List (Str × Str)) : List Str := ps.flatMap fun p => [p.1, p.2]
theorem flat_0 : ∀ (ps : List (Str × Str)) (k : Nat), (flat ps)[2 * k]? = (ps[k]?).map (·.1) ∧ (flat ps)[2 * k + 1]? = (ps[k]?).map (·.2)
  | [], k => by simp [flat]
  | p :: ps, 0 => by simp [flat]
  | p :: ps, k + 1 => by
    have := flat_0 ps k
    have e : flat (p :: ps) = p.1 :: p.2 :: flat ps := by simp [flat]
    rw [e, show 2 * (k + 1) = 2 * k + 1 + 1 from by omega]
    simpa using this
theorem item_get {ys : List Str} {k : Nat} {w : Str} (h : ys[k]? = some w) : D.item (.lst (ys.map D.str)) (.int (k : Int)) = .ok (.str w) := by
  obtain ⟨hk, e⟩ := List.getElem?_eq_some_iff.mp h
  rw [item_lst (by rw [List.length_map]; exact hk), List.getElem_map, e]
theorem pairs_eq {ps : List (Str × Str)} (h1 : 1 ≤ ps.length) (h8 : ps.length ≤ 8) : m_pairs_of (.lst ((flat ps).map D.str)) = .ok (.lst (ps.map encS)) := by
  have fl : (flat ps).length = 2 * ps.length := flat2 (fun _ => rfl) ps
  have ln : D.len [.lst ((flat ps).map D.str)] = .ok (.int ((2 * ps.length : Nat) : Int)) := by rw [len_lst, List.length_map, fl]
  have md : D.mod (.int ((2 * ps.length : Nat) : Int)) (.int 2) = .ok (.int 0) := by
    rw [mod_int (by decide)]
    refine congrArg (fun z => Res.ok (D.int z)) ?_
    omega
  have i0 : inB 0 = true := by decide
  have i1 : inB ((2 * ps.length : Nat) : Int) = true := by
    unfold inB
    have e62 : (2 : Int) ^ 62 = 4611686018427387904 := by simp
    simp
    omega
  have sn : stepN 0 ((2 * ps.length : Nat) : Int) 2 = ps.length := by
    unfold stepN
    rw [if_pos (by omega)]
    omega
  have rg : D.range3 [.int 0, .int ((2 * ps.length : Nat) : Int), .int 2] = .ok ((List.range ps.length).map fun k : Nat => D.int ((2 * k : Nat) : Int)) := by
    rw [range3_up i0 i1 (by decide) (by decide), sn]
    refine congrArg Res.ok (List.map_congr_left fun k _ => ?_)
    refine congrArg D.int ?_
    omega
  simp -implicitDefEqProofs only [m_pairs_of, bind_ok, ln, Lk.lt_int', decide_eq_false (show ¬ ((2 * ps.length : Nat) : Int) < 2 by omega), toB_bl, Bool.false_eq_true, if_false, Lk.gt_int', decide_eq_false (show ¬ (16 : Int) < ((2 * ps.length : Nat) : Int) by omega), md, Lk.eq_int, show ((0 : Int) == 1) = false from rfl, rg]
  rw [lcSize_ok (by simp; omega), bind_ok, compR_map (fun k : Nat => D.int ((2 * k : Nat) : Int)) (fun k => match ps[k]? with | some p => encS p | none => .non) (xs := List.range ps.length) (fun k hk => by
    have hk := List.mem_range.mp hk
    have f := flat_0 ps k
    have g : ps[k]? = some ps[k] := List.getElem?_eq_getElem hk
    rw [g] at f ⊢
    have a0 := item_get f.1
    have a1 := item_get f.2
    have ad : D.add (.int ((2 * k : Nat) : Int)) (.int 1) = .ok (.int ((2 * k + 1 : Nat) : Int)) := by
      rw [Lk.add_int]
      refine congrArg (fun z => Res.ok (D.int z)) ?_
      omega
    simp -implicitDefEqProofs only [lcF_yes, bind_ok, a0, ad, a1, sized_2]
    rfl)]
  simp -implicitDefEqProofs only [bind_ok, fin_rt]
  refine congrArg (fun z => Res.ok (D.lst z)) ?_
  refine List.ext_getElem (by simp) fun i a b => ?_
  simp only [List.getElem_map, List.getElem_range]
  rw [List.getElem?_eq_getElem (by simpa using b)]
theorem way_in {w : Str} (h : way w) : D.notin (.str w) (.tup (([Str.ofString "up", Str.ofString "down"] : List Str).map D.str)) = .ok (.bl false) := by
  rcases h with rfl | rfl
  · rfl
  · rfl
theorem steps_eq {st : List (Str × Str)} (h1 : 1 ≤ st.length) (h8 : st.length ≤ 8) (hs : ∀ p ∈ st, (lett p.1 ∧ p.1.length ≤ 12) ∧ way p.2) : m_steps_of (.lst ((flat st).map D.str)) = .ok (.tup (st.map encS)) := by
  simp -implicitDefEqProofs only [m_steps_of, bind_ok, sized_0, F1_eq, pairs_eq h1 h8, seq_lst]
  rw [fin_bind]
  refine loop_keep_at (c := encS) (xs := st) (fun j s => s = (st.take j).map encS) rfl ?_ ?_
  · rintro j hj _ rfl
    obtain ⟨⟨a, b⟩, c⟩ := hs _ (List.getElem_mem hj)
    refine ⟨(st.take (j + 1)).map encS, ?_, rfl⟩
    have hp : pushR ((st.take j).map encS) (encS st[j]) = .ok ((st.take (j + 1)).map encS) := by
      rw [pushR_ok (by rw [List.length_map, List.length_take]; omega), ← List.take_append_getElem hj, List.map_append]
      rfl
    simp -implicitDefEqProofs only [bind_ok, two_S, way_in c, toB_bl, Bool.false_eq_true, if_false, F1_eq, name_ok a b, sized_2]
    have hp : pushR ((st.take j).map encS) (.tup [.str st[j].1, .str st[j].2]) = _ := hp
    rw [hp]
    rfl
  · rintro _ rfl
    rw [List.take_length]
    rfl
theorem weather_eq {w : List (Int × Int)} (h1 : 1 ≤ w.length) (h8 : w.length ≤ 8) (hs : ∀ p ∈ w, few p.1 ∧ few p.2) : m_weather_of (.lst ((w.flatMap fun p => [ts p.1, ts p.2]).map D.str)) = .ok (.tup (w.map encI)) := by
  have e : (w.flatMap fun p => [ts p.1, ts p.2]) = flat (w.map fun p => (ts p.1, ts p.2)) := by
    unfold flat
    rw [List.flatMap_map]
  rw [e]
  simp -implicitDefEqProofs only [m_weather_of, bind_ok, F1_eq, pairs_eq (ps := w.map fun p => (ts p.1, ts p.2)) (by simpa using h1) (by simpa using h8), seq_lst, List.map_map]
  rw [lcSize_ok (by simp; omega), bind_ok, compX_map (encS ∘ fun p : Int × Int => (ts p.1, ts p.2)) encI (xs := w) (fun p hp => by
    obtain ⟨a, b⟩ := hs p hp
    have t0 : D.item ((encS ∘ fun p : Int × Int => (ts p.1, ts p.2)) p) (.int 0) = .ok (.str (ts p.1)) := rfl
    have t1 : D.item ((encS ∘ fun p : Int × Int => (ts p.1, ts p.2)) p) (.int 1) = .ok (.str (ts p.2)) := rfl
    simp -implicitDefEqProofs only [lcF_yes, bind_ok, t0, t1, F1_eq, number_ts a, number_ts b, sized_2]
    rfl)]
  simp -implicitDefEqProofs only [bind_ok, toTup_lst, fin_rt]
theorem hd_in : D.isin (.str (S' "pass")) (.tup [.str (S' "pass"), .str (S' "let")]) = .ok (.bl true) ∧ D.isin (.str (S' "let")) (.tup [.str (S' "pass"), .str (S' "let")]) = .ok (.bl true) ∧ D.isin (.str (S' "take")) (.tup [.str (S' "pass"), .str (S' "let")]) = .ok (.bl false) ∧ D.isin (.str (S' "rain")) (.tup [.str (S' "pass"), .str (S' "let")]) = .ok (.bl false) ∧ D.isin (.str (S' "take")) (.tup [.str (S' "take"), .str (S' "rain")]) = .ok (.bl true) ∧ D.isin (.str (S' "rain")) (.tup [.str (S' "take"), .str (S' "rain")]) = .ok (.bl true) := ⟨rfl, rfl, rfl, rfl, rfl, rfl⟩
theorem read_eq {e : En} (h : ok e) (n : nm e) : m_entry_of (.str (rowT e)) = .ok (enc e) := by
  have rs := row_split h n
  obtain ⟨i1, i2, i3, i4, i5, i6⟩ := hd_in
  cases e with
  | pr k m =>
    have rs : D.split _ _ = .ok [.str k, .str m] := rs
    have t0 : D.item (.lst [.str k, .str m]) (.int 0) = .ok (.str k) := rfl
    have t1 : D.item (.lst [.str k, .str m]) (.int 1) = .ok (.str m) := rfl
    have ln : D.len [.lst [.str k, .str m]] = .ok (.int 2) := rfl
    have nk := name_ok n h.2.1
    rcases h.1 with rfl | rfl <;>
    · simp -implicitDefEqProofs only [m_entry_of, bind_ok, txt_str, rs, t0, t1, ln, Lk.eq_str, q1, q2, toB_bl, Bool.false_eq_true, if_false, if_true, sized_2, i1, i2, Lk.eq_int, beq_self_eq_true, F1_eq, nk, up_ok, oup_rt, fin_rt]
      rfl
  | am k m a =>
    have rs : D.split _ _ = .ok [.str k, .str m, .str (ts a)] := rs
    have t0 : D.item (.lst [.str k, .str m, .str (ts a)]) (.int 0) = .ok (.str k) := rfl
    have t1 : D.item (.lst [.str k, .str m, .str (ts a)]) (.int 1) = .ok (.str m) := rfl
    have t2 : D.item (.lst [.str k, .str m, .str (ts a)]) (.int 2) = .ok (.str (ts a)) := rfl
    have ln : D.len [.lst [.str k, .str m, .str (ts a)]] = .ok (.int 3) := rfl
    have nk := name_ok n h.2.1.1
    have nt := number_ts h.2.2
    rcases h.1 with rfl | rfl <;>
    · simp -implicitDefEqProofs only [m_entry_of, bind_ok, txt_str, rs, t0, t1, t2, ln, Lk.eq_str, q1, q2, toB_bl, Bool.false_eq_true, if_false, if_true, sized_2, sized_3, i3, i4, i5, i6, Lk.eq_int, beq_self_eq_true, F1_eq, nk, nt, up_ok, oup_rt, fin_rt]
      rfl
  | co m1 m2 st =>
    obtain ⟨h1, h2, h3, h4⟩ := h
    obtain ⟨n1, n2, n3, n4⟩ := n
    have rs : D.split _ _ = .ok (.str (S' "come") :: .str m1 :: .str m2 :: (flat st).map D.str) := rs
    have t0 : D.item (.lst (.str (S' "come") :: .str m1 :: .str m2 :: (flat st).map D.str)) (.int 0) = .ok (.str (S' "come")) := item_lst (k := 0) (by simp)
    have t1 : D.item (.lst (.str (S' "come") :: .str m1 :: .str m2 :: (flat st).map D.str)) (.int 1) = .ok (.str m1) := item_lst (k := 1) (by simp)
    have t2 : D.item (.lst (.str (S' "come") :: .str m1 :: .str m2 :: (flat st).map D.str)) (.int 2) = .ok (.str m2) := item_lst (k := 2) (by simp)
    have fl : (flat st).length = 2 * st.length := flat2 (fun _ => rfl) st
    have ln : D.len [.lst (.str (S' "come") :: .str m1 :: .str m2 :: (flat st).map D.str)] = .ok (.int ((2 * st.length + 3 : Nat) : Int)) := by
      rw [len_lst]
      refine congrArg (fun z : Nat => Res.ok (D.int (z : Int))) ?_
      simp [fl]
    have sl : D.slice (.lst (.str (S' "come") :: .str m1 :: .str m2 :: (flat st).map D.str)) (some 3) none = .ok (.lst ((flat st).map D.str)) := slice_from (k := 3)
    have ti : D.toI (.int 3) = .ok (some 3) := rfl
    have se := steps_eq n3 h3 fun p hp => ⟨⟨(n4 p hp).1, (h4 p hp).1.1⟩, (n4 p hp).2⟩
    simp -implicitDefEqProofs only [m_entry_of, bind_ok, txt_str, rs, t0, t1, t2, ln, Lk.eq_str, beq_self_eq_true, toB_bl, if_true, Lk.gt_int', decide_eq_true (show (3 : Int) < ((2 * st.length + 3 : Nat) : Int) by omega), F1_eq, name_ok n1 h1.1, name_ok n2 h2.1, ti, sl, se, sized_4, up_ok, oup_rt, fin_rt]
    rfl
  | ni w =>
    have rs : D.split _ _ = .ok (.str (S' "night") :: (w.flatMap fun p => [ts p.1, ts p.2]).map D.str) := rs
    have t0 : D.item (.lst (.str (S' "night") :: (w.flatMap fun p => [ts p.1, ts p.2]).map D.str)) (.int 0) = .ok (.str (S' "night")) := item_lst (k := 0) (by simp)
    have sl : D.slice (.lst (.str (S' "night") :: (w.flatMap fun p => [ts p.1, ts p.2]).map D.str)) (some 1) none = .ok (.lst ((w.flatMap fun p => [ts p.1, ts p.2]).map D.str)) := slice_from (k := 1)
    have ti : D.toI (.int 1) = .ok (some 1) := rfl
    have qn : (S' "night" == S' "come") = false := by decide +kernel
    simp -implicitDefEqProofs only [m_entry_of, bind_ok, txt_str, rs, t0, Lk.eq_str, qn, beq_self_eq_true, toB_bl, Bool.false_eq_true, if_false, if_true, ti, sl, F1_eq, weather_eq n h.1 h.2, sized_2, up_ok, oup_rt, fin_rt]
    rfl
end Lw
namespace Lw
open PySem Lk
/-! what entry_of refuses -/
theorem isin_two (w a b : Str) : D.isin (.str w) (.tup [.str a, .str b]) = .ok (.bl (a == w || (b == w || false))) := rfl
theorem notin_way (w : Str) : D.notin (.str w) (.tup (([Str.ofString "up", Str.ofString "down"] : List Str).map D.str)) = .ok (.bl (!(S' "up" == w || (S' "down" == w || false)))) := rfl
def nameB (w : Str) : Bool := allS abc w && (decide (1 ≤ (w.length : Int)) && decide ((w.length : Int) ≤ 12))
def figB (w : Str) : Bool := allF w && (decide (1 ≤ (w.length : Int)) && decide ((w.length : Int) ≤ 12))
theorem name_gen {w : Str} (h : w.length ≤ 1000) : m_name_of (.str w) = if nameB w = true then .ok (.str w) else .exc 1 := by
  have me := made_gen abc w h
  simp -implicitDefEqProofs only [m_name_of, m_is_name, bind_ok, F1_eq, F2_eq, show m_made_of (.str w) (.str (Str.ofString "abcdefghijklmnopqrstuvwxyz")) = _ from me, fin_rt, truth_bl]
  show fin (if (!nameB w) = true then _ else _) = _
  cases nameB w <;> rfl
theorem number_bad {w : Str} (h : w.length ≤ 1000) (hb : figB w = false) : m_number_of (.str w) = .exc 1 := by
  have me := made_eq w h
  have hb : (allF w && (decide (1 ≤ (w.length : Int)) && decide ((w.length : Int) ≤ 12))) = false := hb
  rw [hb] at me
  simp -implicitDefEqProofs only [m_number_of, bind_ok, F2_eq, show m_made_of (.str w) (.str (Str.ofString "0123456789")) = _ from me, truth_bl]
  rfl
theorem first_sign {w : Str} {c : Nat} {r : List Nat} (ec : cl w = c :: r) (hl : w.length ≤ 1000) : D.item (.str w) (.int 0) = .ok (.str ⟨#[c]⟩) := by
  have := item_str (s := w) (i := 0) (by show 0 < (cl w).length; rw [ec]; simp) (by omega)
  have e0 : w.cps.toList[0]'(by show 0 < (cl w).length; rw [ec]; simp) = c := by
    have : (cl w)[0]'(by rw [ec]; simp) = c := by simp [ec]
    exact this
  rw [e0] at this
  exact this
theorem zero_cl : S' "0" = ⟨#[48]⟩ := by decide +kernel
theorem number_lead {w : Str} {c : Nat} {r : List Nat} (h : w.length ≤ 1000) (ec : cl w = 48 :: c :: r) : m_number_of (.str w) = .exc 1 := by
  cases hb : figB w with
  | false => exact number_bad h hb
  | true =>
    have me := made_eq w h
    have hb : (allF w && (decide (1 ≤ (w.length : Int)) && decide ((w.length : Int) ≤ 12))) = true := hb
    rw [hb] at me
    have l2 : 2 ≤ w.length := by rw [← cl_len, ec]; simp
    have zz : ((⟨#[48]⟩ : Str) == Str.ofString "0") = true := by decide +kernel
    simp -implicitDefEqProofs only [m_number_of, bind_ok, F2_eq, show m_made_of (.str w) (.str (Str.ofString "0123456789")) = _ from me, truth_bl, Bool.not_true, Bool.false_eq_true, if_false, first_sign ec h, Lk.eq_str, zz, toB_bl, if_true, len_str (show w.length ≤ 100000 by omega), Lk.gt_int', decide_eq_true (show (1 : Int) < (w.length : Int) by omega)]
    rfl
theorem figs_dig {c : Nat} (h : c ∈ figs.cps.toList) : 48 ≤ c ∧ c ≤ 57 := by
  rw [figs_cl] at h
  simp only [List.mem_cons, List.not_mem_nil, or_false] at h
  omega
theorem number_all {w : Str} (h : w.length ≤ 1000) : (∃ n, m_number_of (.str w) = .ok (.int n)) ∨ m_number_of (.str w) = .exc 1 := by
  cases hb : figB w with
  | false => exact .inr (number_bad h hb)
  | true =>
    have me := made_eq w h
    have hb' : (allF w && (decide (1 ≤ (w.length : Int)) && decide ((w.length : Int) ≤ 12))) = true := hb
    rw [hb'] at me
    simp only [Bool.and_eq_true, decide_eq_true_eq] at hb'
    obtain ⟨af, l1, l12⟩ := hb'
    cases ec : cl w with
    | nil =>
      have := congrArg List.length ec
      rw [cl_len] at this
      simp at this
      omega
    | cons c r =>
      have hd : PySem.NumText.AllDigits w.cps.toList := fun c hc => figs_dig (of_decide_eq_true (List.all_eq_true.mp af c hc))
      have ti := PySem.intText_digits hd (by rw [show w.cps.toList = c :: r from ec]; simp) (by omega)
      have tI := toInt_str ti (by omega)
      by_cases lead : c = 48 ∧ r ≠ []
      · obtain ⟨rfl, hr⟩ := lead
        cases r with
        | nil => exact (hr rfl).elim
        | cons d r => exact .inr (number_lead h ec)
      · refine .inl ⟨(PySem.NumText.digitsVal w.cps.toList : Nat), ?_⟩
        have fs := first_sign ec h
        cases hz : ((⟨#[c]⟩ : Str) == Str.ofString "0") with
        | false =>
          simp -implicitDefEqProofs only [m_number_of, bind_ok, F2_eq, show m_made_of (.str w) (.str (Str.ofString "0123456789")) = _ from me, truth_bl, Bool.not_true, Bool.false_eq_true, if_false, fs, Lk.eq_str, hz, toB_bl, tI]
          rfl
        | true =>
          have c48 : c = 48 := by
            have e : (⟨#[c]⟩ : Str) = Str.ofString "0" := by simpa using hz
            rw [show Str.ofString "0" = (⟨#[48]⟩ : Str) from zero_cl] at e
            have := congrArg cl e
            simpa [cl] using this
          have hr : r = [] := Classical.byContradiction fun q => lead ⟨c48, q⟩
          have l1 : w.length = 1 := by rw [← cl_len, ec, hr]; rfl
          simp -implicitDefEqProofs only [m_number_of, bind_ok, F2_eq, show m_made_of (.str w) (.str (Str.ofString "0123456789")) = _ from me, truth_bl, Bool.not_true, Bool.false_eq_true, if_false, fs, Lk.eq_str, hz, toB_bl, if_true, len_str (show w.length ≤ 100000 by omega), l1, Lk.gt_int', tI]
          rfl
/-- no name, no number, no way -/
def badw (w : Str) : Prop := nameB w = false ∧ m_number_of (.str w) = .exc 1 ∧ ¬ way w
theorem way_no {w : Str} (h : ¬ way w) : (S' "up" == w || (S' "down" == w || false)) = false := by
  have h1 : (S' "up" == w) = false := beq_eq_false_iff_ne.mpr fun e => h (.inl e.symm)
  have h2 : (S' "down" == w) = false := beq_eq_false_iff_ne.mpr fun e => h (.inr e.symm)
  rw [h1, h2]; rfl
theorem way_yes {w : Str} (h : way w) : (S' "up" == w || (S' "down" == w || false)) = true := by
  rcases h with rfl | rfl
  · decide +kernel
  · decide +kernel
theorem pairs_bad {ws : List Str} (hl : ws.length ≤ 1000) (h : ws.length < 2 ∨ 16 < ws.length ∨ ws.length % 2 = 1) : m_pairs_of (.lst (ws.map D.str)) = .exc 1 := by
  have ln : D.len [.lst (ws.map D.str)] = .ok (.int (ws.length : Int)) := by rw [len_lst, List.length_map]
  have md : D.mod (.int (ws.length : Int)) (.int 2) = .ok (.int ((ws.length % 2 : Nat) : Int)) := by
    rw [mod_int (by decide)]
    refine congrArg (fun z => Res.ok (D.int z)) ?_
    omega
  by_cases h1 : ws.length < 2
  · simp -implicitDefEqProofs only [m_pairs_of, bind_ok, ln, Lk.lt_int', decide_eq_true (show (ws.length : Int) < 2 by omega), toB_bl, if_true]
    rfl
  · by_cases h2 : 16 < ws.length
    · simp -implicitDefEqProofs only [m_pairs_of, bind_ok, ln, Lk.lt_int', decide_eq_false (show ¬ (ws.length : Int) < 2 by omega), toB_bl, Bool.false_eq_true, if_false, Lk.gt_int', decide_eq_true (show (16 : Int) < (ws.length : Int) by omega), if_true]
      rfl
    · have h3 : ws.length % 2 = 1 := by omega
      rw [h3] at md
      simp -implicitDefEqProofs only [m_pairs_of, bind_ok, ln, Lk.lt_int', decide_eq_false (show ¬ (ws.length : Int) < 2 by omega), toB_bl, Bool.false_eq_true, if_false, Lk.gt_int', decide_eq_false (show ¬ (16 : Int) < (ws.length : Int) by omega), md, Lk.eq_int]
      rfl
theorem flat_even : ∀ (n : Nat) (ws : List Str), ws.length = 2 * n → ∃ ps : List (Str × Str), ws = flat ps ∧ ps.length = n
  | 0, ws, h => ⟨[], List.eq_nil_of_length_eq_zero (by omega), rfl⟩
  | n + 1, ws, h => by
    match ws, h with
    | a :: b :: r, h =>
      obtain ⟨ps, e, l⟩ := flat_even n r (by simpa using by simp at h; omega)
      exact ⟨(a, b) :: ps, by rw [e]; simp [flat], by simp [l]⟩
    | [a], h => simp at h; omega
    | [], h => simp at h
theorem flat_mem {ps : List (Str × Str)} {w : Str} (h : w ∈ flat ps) : ∃ p ∈ ps, w = p.1 ∨ w = p.2 := by
  obtain ⟨p, hp, hw⟩ := List.mem_flatMap.mp h
  refine ⟨p, hp, ?_⟩
  simpa using hw
theorem mem_flat {ps : List (Str × Str)} {p : Str × Str} (h : p ∈ ps) : p.1 ∈ flat ps ∧ p.2 ∈ flat ps := ⟨List.mem_flatMap.mpr ⟨p, h, by simp⟩, List.mem_flatMap.mpr ⟨p, h, by simp⟩⟩
/-- what refuses the words behind a head by twos -/
def offT (ws : List Str) : Prop := ws.length < 2 ∨ 16 < ws.length ∨ ws.length % 2 = 1 ∨ ∃ w ∈ ws, badw w
theorem off_cases {ws : List Str} (h : offT ws) : (ws.length < 2 ∨ 16 < ws.length ∨ ws.length % 2 = 1) ∨ ∃ ps : List (Str × Str), ws = flat ps ∧ 1 ≤ ps.length ∧ ps.length ≤ 8 ∧ ∃ p ∈ ps, badw p.1 ∨ badw p.2 := by
  by_cases q : ws.length < 2 ∨ 16 < ws.length ∨ ws.length % 2 = 1
  · exact .inl q
  · right
    obtain ⟨ps, e, l⟩ := flat_even (ws.length / 2) ws (by omega)
    refine ⟨ps, e, by omega, by omega, ?_⟩
    rcases h with h | h | h | ⟨w, hw, hb⟩
    · omega
    · omega
    · omega
    · rw [e] at hw
      obtain ⟨p, hp, z⟩ := flat_mem hw
      rcases z with rfl | rfl
      · exact ⟨p, hp, .inl hb⟩
      · exact ⟨p, hp, .inr hb⟩
theorem loop_bad {B T : Type} {step : List D → D → Res (Out (List D) (List D) T)} : ∀ (ps : List (Str × Str)) (s : List D), s.length + ps.length ≤ 1000 →
    (∀ s : List D, s.length ≤ 1000 → ∀ p ∈ ps, (∃ s', s'.length = s.length + 1 ∧ step s (encS p) = .ok (.nx s')) ∨ step s (encS p) = .exc 1) →
    (∃ p ∈ ps, ∀ s : List D, s.length ≤ 1000 → step s (encS p) = .exc 1) → (loopR step (ps.map encS) s : Res (Out (List D) B T)) = .exc 1
  | [], _, _, _, ⟨_, h, _⟩ => by cases h
  | p :: ps, s, hl, hs, ⟨q, hq, e⟩ => by
    rw [List.length_cons] at hl
    rcases hs s (by omega) p List.mem_cons_self with ⟨s', l', z⟩ | z
    · simp only [List.map_cons, loopR, z]
      rcases List.mem_cons.mp hq with rfl | hq
      · rw [e s (by omega)] at z; cases z
      · exact loop_bad ps s' (by omega) (fun s hs' p hp => hs s hs' p (List.mem_cons_of_mem _ hp)) ⟨q, hq, e⟩
    · simp only [List.map_cons, loopR, z]
      rfl
theorem steps_bad {ws : List Str} (hl : ws.length ≤ 500) (hw : ∀ w ∈ ws, w.length ≤ 1000) (h : offT ws) : m_steps_of (.lst (ws.map D.str)) = .exc 1 := by
  rcases off_cases h with h | ⟨ps, e, h1, h8, bad⟩
  · simp -implicitDefEqProofs only [m_steps_of, bind_ok, sized_0, F1_eq, pairs_bad (by omega) h]
    rfl
  · rw [e] at hw ⊢
    simp -implicitDefEqProofs only [m_steps_of, bind_ok, sized_0, F1_eq, pairs_eq h1 h8, seq_lst]
    rw [loop_bad ps [] (by simp; omega) ?_ ?_]
    · rfl
    · intro s hs p hp
      have l1 := hw _ (mem_flat hp).1
      simp -implicitDefEqProofs only [bind_ok, two_S, notin_way, toB_bl, F1_eq, name_gen l1]
      by_cases hy : way p.2
      · simp -implicitDefEqProofs only [way_yes hy, Bool.not_true, Bool.false_eq_true, if_false]
        cases nameB p.1 with
        | false => exact .inr rfl
        | true =>
          refine .inl ⟨s ++ [encS p], by simp, ?_⟩
          have pu : pushR s (.tup [.str p.1, .str p.2]) = .ok (s ++ [encS p]) := pushR_ok (by omega)
          simp -implicitDefEqProofs only [if_true, bind_ok, sized_2, pu]
      · simp -implicitDefEqProofs only [way_no hy, Bool.not_false, if_true]
        exact .inr rfl
    · obtain ⟨p, hp, hb⟩ := bad
      refine ⟨p, hp, fun s hs => ?_⟩
      have l1 := hw _ (mem_flat hp).1
      simp -implicitDefEqProofs only [bind_ok, two_S, notin_way, toB_bl, F1_eq, name_gen l1]
      by_cases hy : way p.2
      · simp -implicitDefEqProofs only [way_yes hy, Bool.not_true, Bool.false_eq_true, if_false]
        rcases hb with hb | hb
        · rw [hb.1]; rfl
        · exact (hb.2.2 hy).elim
      · simp -implicitDefEqProofs only [way_no hy, Bool.not_false, if_true]
        rfl
theorem weather_bad {ws : List Str} (hl : ws.length ≤ 500) (hw : ∀ w ∈ ws, w.length ≤ 1000) (h : offT ws) : m_weather_of (.lst (ws.map D.str)) = .exc 1 := by
  rcases off_cases h with h | ⟨ps, e, h1, h8, bad⟩
  · simp -implicitDefEqProofs only [m_weather_of, bind_ok, F1_eq, pairs_bad (by omega) h]
    rfl
  · rw [e] at hw ⊢
    simp -implicitDefEqProofs only [m_weather_of, bind_ok, F1_eq, pairs_eq h1 h8, seq_lst]
    rw [lcSize_ok (by simp; omega), bind_ok, compX_exc (k := 1) ?_ ?_]
    · rfl
    · intro x hx
      obtain ⟨p, hp, rfl⟩ := List.mem_map.mp hx
      have l1 := hw _ (mem_flat hp).1
      have l2 := hw _ (mem_flat hp).2
      simp -implicitDefEqProofs only [lcF_yes, bind_ok, two_S, F1_eq]
      rcases number_all l1 with ⟨n, e1⟩ | e1
      · rcases number_all l2 with ⟨m, e2⟩ | e2
        · simp -implicitDefEqProofs only [e1, e2, bind_ok, sized_2]
          exact .inl ⟨_, rfl⟩
        · simp -implicitDefEqProofs only [e1, e2, bind_ok]
          exact .inr rfl
      · simp -implicitDefEqProofs only [e1]
        exact .inr rfl
    · obtain ⟨p, hp, hb⟩ := bad
      refine ⟨encS p, List.mem_map.mpr ⟨p, hp, rfl⟩, ?_⟩
      have l1 := hw _ (mem_flat hp).1
      simp -implicitDefEqProofs only [lcF_yes, bind_ok, two_S, F1_eq]
      rcases number_all l1 with ⟨n, e1⟩ | e1
      · rcases hb with hb | hb
        · rw [hb.2.1] at e1; cases e1
        · simp -implicitDefEqProofs only [e1, hb.2.1, bind_ok]
          rfl
      · simp -implicitDefEqProofs only [e1]
        rfl
end Lw
namespace Lw
open PySem Lk
/-- a row's head, and how many words stand behind it -/
def shape (w : Str) (n : Nat) : Prop := (w = S' "come" ∧ 4 ≤ n ∧ n ≤ 18 ∧ n % 2 = 0) ∨ (w = S' "night" ∧ 2 ≤ n ∧ n ≤ 16 ∧ n % 2 = 0) ∨ ((w = S' "pass" ∨ w = S' "let") ∧ n = 1) ∨ ((w = S' "take" ∨ w = S' "rain") ∧ n = 2)
def off (w : Str) (r : List Str) : Prop := ¬ shape w r.length ∨ ∃ x ∈ r, badw x
def fitW (x : Str) : Prop := sol x ∧ x.length ≤ 300
theorem hd_diff : (S' "come" == S' "night") = false ∧ (S' "pass" == S' "come") = false ∧ (S' "let" == S' "come") = false ∧ (S' "take" == S' "come") = false ∧ (S' "rain" == S' "come") = false ∧ (S' "night" == S' "come") = false ∧
    (S' "pass" == S' "night") = false ∧ (S' "let" == S' "night") = false ∧ (S' "take" == S' "night") = false ∧ (S' "rain" == S' "night") = false ∧
    (S' "pass" == S' "take") = false ∧ (S' "let" == S' "take") = false ∧ (S' "rain" == S' "take") = false ∧ (S' "night" == S' "take") = false ∧ (S' "come" == S' "take") = false ∧
    (S' "pass" == S' "rain") = false ∧ (S' "let" == S' "rain") = false ∧ (S' "take" == S' "rain") = false ∧ (S' "night" == S' "rain") = false ∧ (S' "come" == S' "rain") = false ∧
    (S' "take" == S' "pass") = false ∧ (S' "rain" == S' "pass") = false ∧ (S' "let" == S' "pass") = false ∧ (S' "come" == S' "pass") = false ∧ (S' "night" == S' "pass") = false ∧
    (S' "take" == S' "let") = false ∧ (S' "rain" == S' "let") = false ∧ (S' "pass" == S' "let") = false ∧ (S' "come" == S' "let") = false ∧ (S' "night" == S' "let") = false := by decide +kernel
theorem words_split {ws : List Str} (hne : ws ≠ []) (hl : ws.length ≤ 100) (hs : ∀ w ∈ ws, fitW w) : D.split (.str (Txt.join (S' " ") ws)) (.str (S' " ")) = .ok (ws.map D.str) := by
  have sl := tjoin_len (S' " ") ws
  have sm := sum_le ws (fun x hx => (hs x hx).2)
  have s1 : (S' " ").length = 1 := sp_len
  rw [s1] at sl
  rw [split_ok sp_l (by omega)]
  refine congrArg (fun z : List Str => Res.ok (z.map D.str)) ?_
  exact sp_split sp_cl sp_k hne fun p hp => (hs p hp).1.1
theorem entry_bad {w : Str} {r : List Str} (hl : r.length ≤ 60) (hs : ∀ x ∈ w :: r, fitW x) (h : off w r) : m_entry_of (.str (Txt.join (S' " ") (w :: r))) = .exc 1 := by
  have sp := words_split (ws := w :: r) (by simp) (by simp; omega) hs
  have hr : ∀ x ∈ r, x.length ≤ 1000 := fun x hx => Nat.le_trans (hs x (List.mem_cons_of_mem _ hx)).2 (by decide)
  have t0 : D.item (.lst ((w :: r).map D.str)) (.int 0) = .ok (.str w) := item_lst (k := 0) (by simp)
  obtain ⟨n, hn⟩ : ∃ n, n = r.length + 1 := ⟨_, rfl⟩
  have ln : D.len [.lst ((w :: r).map D.str)] = .ok (.int ((n : Nat) : Int)) := by rw [len_lst, List.length_map, List.length_cons, hn]
  obtain ⟨d1, d2, d3, d4, d5, d6, d7, d8, d9, d10, d11, d12, d13, d14, d15, d16, d17, d18, d19, d20, d21, d22, d23, d24, d25, d26, d27, d28, d29, d30⟩ := hd_diff
  by_cases e1 : w = S' "come"
  · subst e1
    by_cases h3 : r.length ≤ 2
    · have hn3 : n ≤ 3 := by omega
      simp -implicitDefEqProofs only [m_entry_of, bind_ok, txt_str, sp, t0, ln, Lk.eq_str, beq_self_eq_true, d1, toB_bl, if_true, Lk.gt_int', decide_eq_false (show ¬ (3 : Int) < ((n : Nat) : Int) by omega), Bool.false_eq_true, if_false, sized_2, isin_two, d16, d17, d18, d21, d22, d26, d27, d2, d3, d4, d5, d11, d15, d20, d24, d29, (show (S' "let" == S' "come") = false from d3), (show (S' "pass" == S' "come") = false from d2), Bool.or_false, Bool.or_self]
      rfl
    · obtain ⟨a, b, q, rfl⟩ : ∃ a b q, r = a :: b :: q := by
        cases r with
        | nil => simp at h3
        | cons a r =>
          cases r with
          | nil => simp at h3
          | cons b q => exact ⟨a, b, q, rfl⟩
      · have h4 : 3 < n := by
          simp only [List.length_cons] at h3 hn
          omega
        have t1 : D.item (.lst ((S' "come" :: a :: b :: q).map D.str)) (.int 1) = .ok (.str a) := item_lst (k := 1) (by simp)
        have t2 : D.item (.lst ((S' "come" :: a :: b :: q).map D.str)) (.int 2) = .ok (.str b) := item_lst (k := 2) (by simp)
        have sl : D.slice (.lst ((S' "come" :: a :: b :: q).map D.str)) (some 3) none = .ok (.lst (q.map D.str)) := slice_from (k := 3)
        have ti : D.toI (.int 3) = .ok (some 3) := rfl
        simp -implicitDefEqProofs only [m_entry_of, bind_ok, txt_str, sp, t0, ln, Lk.eq_str, beq_self_eq_true, toB_bl, if_true, Lk.gt_int', decide_eq_true (show (3 : Int) < ((n : Nat) : Int) by omega), t1, t2, F1_eq, ti, sl, name_gen (hr a (by simp)), name_gen (hr b (by simp))]
        cases na : nameB a with
        | false => simp -implicitDefEqProofs only [Bool.false_eq_true, if_false]; rfl
        | true =>
          cases nb : nameB b with
          | false => simp -implicitDefEqProofs only [Bool.false_eq_true, if_false, if_true, bind_ok]; rfl
          | true =>
            have ot : offT q := by
              unfold off shape at h
              by_cases z : q.length < 2 ∨ 16 < q.length ∨ q.length % 2 = 1
              · rcases z with z | z | z
                · exact .inl z
                · exact .inr (.inl z)
                · exact .inr (.inr (.inl z))
              · rcases h with h | ⟨x, hx, hb⟩
                · exact (h (.inl ⟨rfl, by simp; omega, by simp; omega, by simp; omega⟩)).elim
                · refine .inr (.inr (.inr ⟨x, ?_, hb⟩))
                  rcases List.mem_cons.mp hx with rfl | hx
                  · rw [hb.1] at na; cases na
                  · rcases List.mem_cons.mp hx with rfl | hx
                    · rw [hb.1] at nb; cases nb
                    · exact hx
            have sb := steps_bad (ws := q) (by simp at hl; omega) (fun x hx => hr x (by simp [hx])) ot
            simp -implicitDefEqProofs only [if_true, bind_ok, sb]
            rfl
  have b1 : (w == S' "come") = false := beq_eq_false_iff_ne.mpr e1
  by_cases e2 : w = S' "night"
  · subst e2
    have sl : D.slice (.lst ((S' "night" :: r).map D.str)) (some 1) none = .ok (.lst (r.map D.str)) := slice_from (k := 1)
    have ti : D.toI (.int 1) = .ok (some 1) := rfl
    have ot : offT r := by
      unfold off shape at h
      by_cases z : r.length < 2 ∨ 16 < r.length ∨ r.length % 2 = 1
      · rcases z with z | z | z
        · exact .inl z
        · exact .inr (.inl z)
        · exact .inr (.inr (.inl z))
      · rcases h with h | hb
        · exact (h (.inr (.inl ⟨rfl, by omega, by omega, by omega⟩))).elim
        · exact .inr (.inr (.inr hb))
    simp -implicitDefEqProofs only [m_entry_of, bind_ok, txt_str, sp, t0, Lk.eq_str, b1, beq_self_eq_true, toB_bl, Bool.false_eq_true, if_false, if_true, ti, sl, F1_eq, weather_bad (by omega) hr ot]
    rfl
  have b2 : (w == S' "night") = false := beq_eq_false_iff_ne.mpr e2
  by_cases e3 : w = S' "pass" ∨ w = S' "let"
  · have i3 : (S' "pass" == w || (S' "let" == w || false)) = true := by rcases e3 with rfl | rfl <;> decide +kernel
    have i4 : (S' "take" == w || (S' "rain" == w || false)) = false := by rcases e3 with rfl | rfl <;> decide +kernel
    by_cases h1 : r.length = 1
    · obtain ⟨a, rfl⟩ : ∃ a, r = [a] := List.length_eq_one_iff.mp h1
      · skip
        have t1 : D.item (.lst ((w :: [a]).map D.str)) (.int 1) = .ok (.str a) := rfl
        have ln : D.len [.lst ((w :: [a]).map D.str)] = .ok (.int 2) := rfl
        have ba : nameB a = false := by
          rcases h with h | ⟨x, hx, hb⟩
          · exact (h (.inr (.inr (.inl ⟨e3, rfl⟩)))).elim
          · rw [List.mem_singleton.mp hx] at hb
            exact hb.1
        simp -implicitDefEqProofs only [m_entry_of, bind_ok, txt_str, sp, t0, ln, Lk.eq_str, b1, b2, toB_bl, Bool.false_eq_true, if_false, if_true, sized_2, isin_two, i3, Lk.eq_int, beq_self_eq_true, t1, F1_eq, name_gen (hr a (by simp)), ba]
        rfl
    · have n2 : (((n : Nat) : Int) == 2) = false := beq_eq_false_iff_ne.mpr (by omega)
      simp -implicitDefEqProofs only [m_entry_of, bind_ok, txt_str, sp, t0, ln, Lk.eq_str, b1, b2, toB_bl, Bool.false_eq_true, if_false, if_true, sized_2, isin_two, i3, i4, Lk.eq_int, n2]
      rfl
  have i3 : (S' "pass" == w || (S' "let" == w || false)) = false := by
    have x1 : (S' "pass" == w) = false := beq_eq_false_iff_ne.mpr fun e => e3 (.inl e.symm)
    have x2 : (S' "let" == w) = false := beq_eq_false_iff_ne.mpr fun e => e3 (.inr e.symm)
    rw [x1, x2]; rfl
  by_cases e4 : w = S' "take" ∨ w = S' "rain"
  · have i4 : (S' "take" == w || (S' "rain" == w || false)) = true := by rcases e4 with rfl | rfl <;> decide +kernel
    by_cases h1 : r.length = 2
    · obtain ⟨a, b, rfl⟩ : ∃ a b, r = [a, b] := by
        cases r with
        | nil => simp at h1
        | cons a r =>
          obtain ⟨b, rfl⟩ := List.length_eq_one_iff.mp (show r.length = 1 by simpa using h1)
          exact ⟨a, b, rfl⟩
      · skip
        have t1 : D.item (.lst ((w :: [a, b]).map D.str)) (.int 1) = .ok (.str a) := rfl
        have t2 : D.item (.lst ((w :: [a, b]).map D.str)) (.int 2) = .ok (.str b) := rfl
        have ln : D.len [.lst ((w :: [a, b]).map D.str)] = .ok (.int 3) := rfl
        simp -implicitDefEqProofs only [m_entry_of, bind_ok, txt_str, sp, t0, ln, Lk.eq_str, b1, b2, toB_bl, Bool.false_eq_true, if_false, if_true, sized_2, isin_two, i3, i4, Lk.eq_int, beq_self_eq_true, t1, t2, F1_eq, name_gen (hr a (by simp))]
        cases na : nameB a with
        | false => simp -implicitDefEqProofs only [Bool.false_eq_true, if_false]; rfl
        | true =>
          have nb : m_number_of (.str b) = .exc 1 := by
            rcases h with h | ⟨x, hx, hb⟩
            · exact (h (.inr (.inr (.inr ⟨e4, rfl⟩)))).elim
            · rcases List.mem_cons.mp hx with rfl | hx
              · rw [hb.1] at na; cases na
              · rw [List.mem_singleton.mp hx] at hb
                exact hb.2.1
          simp -implicitDefEqProofs only [if_true, bind_ok, nb]
          rfl
    · have n3 : (((n : Nat) : Int) == 3) = false := beq_eq_false_iff_ne.mpr (by omega)
      simp -implicitDefEqProofs only [m_entry_of, bind_ok, txt_str, sp, t0, ln, Lk.eq_str, b1, b2, toB_bl, Bool.false_eq_true, if_false, if_true, sized_2, isin_two, i3, i4, Lk.eq_int, n3]
      rfl
  have i4 : (S' "take" == w || (S' "rain" == w || false)) = false := by
    have x1 : (S' "take" == w) = false := beq_eq_false_iff_ne.mpr fun e => e4 (.inl e.symm)
    have x2 : (S' "rain" == w) = false := beq_eq_false_iff_ne.mpr fun e => e4 (.inr e.symm)
    rw [x1, x2]; rfl
  simp -implicitDefEqProofs only [m_entry_of, bind_ok, txt_str, sp, t0, ln, Lk.eq_str, b1, b2, toB_bl, Bool.false_eq_true, if_false, if_true, sized_2, isin_two, i3, i4]
  rfl
end Lw
namespace Lw
open PySem Lk
/-! words made bad -/
theorem name_sign {w : Str} {c : Nat} (h : c ∈ cl w) (n : c ∉ abc.cps.toList) : nameB w = false := by
  have : allS abc w = false := by
    cases q : allS abc w with
    | false => rfl
    | true => exact (n (of_decide_eq_true (List.all_eq_true.mp q c h))).elim
  unfold nameB
  rw [this]; rfl
theorem fig_sign {w : Str} {c : Nat} (h : c ∈ cl w) (n : c ∉ figs.cps.toList) : figB w = false := by
  have : allF w = false := by
    cases q : allF w with
    | false => rfl
    | true => exact (n (of_decide_eq_true (List.all_eq_true.mp q c h))).elim
  unfold figB
  rw [this]; rfl
theorem size_no {w : Str} (h : w.length = 0 ∨ 12 < w.length) : nameB w = false ∧ figB w = false := by
  have e : (decide (1 ≤ (w.length : Int)) && decide ((w.length : Int) ≤ 12)) = false := by
    rcases h with h | h
    · rw [decide_eq_false (show ¬ (1 : Int) ≤ (w.length : Int) by omega)]; rfl
    · rw [decide_eq_false (show ¬ (w.length : Int) ≤ 12 by omega), Bool.and_false]
  unfold nameB figB
  rw [e, Bool.and_false, Bool.and_false]
  exact ⟨rfl, rfl⟩
theorem way_cl : cl (S' "up") = [117, 112] ∧ cl (S' "down") = [100, 111, 119, 110] := by decide +kernel
theorem way_len {w : Str} (h : way w) : w.length = 2 ∨ w.length = 4 := by
  rcases h with rfl | rfl
  · left; decide +kernel
  · right; decide +kernel
theorem way_sign {w : Str} {c : Nat} (h : c ∈ cl w) (n : c ∉ [117, 112, 100, 111, 119, 110]) : ¬ way w := by
  rintro (rfl | rfl)
  · rw [way_cl.1] at h
    exact n (by simp at h ⊢; omega)
  · rw [way_cl.2] at h
    exact n (by simp at h ⊢; omega)
theorem badw_sign {w : Str} {c : Nat} (hl : w.length ≤ 1000) (h : c ∈ cl w) (n1 : c ∉ abc.cps.toList) (n2 : c ∉ figs.cps.toList) : badw w := by
  refine ⟨name_sign h n1, number_bad hl (fig_sign h n2), way_sign h fun z => n1 ?_⟩
  have : ∀ x ∈ [117, 112, 100, 111, 119, 110], x ∈ abc.cps.toList := by decide +kernel
  exact this c z
theorem badw_size {w : Str} (hl : w.length ≤ 1000) (h : w.length = 0 ∨ 12 < w.length) : badw w := by
  obtain ⟨a, b⟩ := size_no h
  exact ⟨a, number_bad hl b, fun z => by have := way_len z; omega⟩
theorem badw_zero {w : Str} (hl : w.length ≤ 100) (h : 1 ≤ w.length) : badw (S' "0" ++ w) := by
  have e0 : cl (S' "0") = [48] := by decide +kernel
  have l0 : (S' "0").length = 1 := by decide +kernel
  have sl := strcat_len (S' "0") w
  have hm : 48 ∈ cl (S' "0" ++ w) := by rw [cl_cat, e0]; simp
  obtain ⟨c, r, ec⟩ : ∃ c r, cl w = c :: r := by
    cases q : cl w with
    | nil =>
      have := congrArg List.length q
      rw [cl_len] at this
      simp at this
      omega
    | cons c r => exact ⟨c, r, rfl⟩
  refine ⟨name_sign hm (by decide +kernel), number_lead (c := c) (r := r) (by omega) (by rw [cl_cat, e0, ec]; rfl), way_sign hm (by decide)⟩
/-! the entry's words -/
def hdw : En → Str
  | .pr k _ => k
  | .am k _ _ => k
  | .co _ _ _ => S' "come"
  | .ni _ => S' "night"
def tlw : En → List Str
  | .pr _ n => [n]
  | .am _ n a => [n, ts a]
  | .co n m st => n :: m :: flat st
  | .ni w => w.flatMap fun p => [ts p.1, ts p.2]
theorem words_cons (e : En) : words e = hdw e :: tlw e := by cases e <;> rfl
def six (w : Str) : Prop := w = S' "come" ∨ w = S' "night" ∨ w = S' "pass" ∨ w = S' "let" ∨ w = S' "take" ∨ w = S' "rain"
theorem hd_six {e : En} (h : ok e) : six (hdw e) := by
  unfold six
  cases e with
  | pr k n => rcases h.1 with r | r <;> simp [hdw, r]
  | am k n a => rcases h.1 with r | r <;> simp [hdw, r]
  | co n m st => simp [hdw]
  | ni w => simp [hdw]
theorem shape_six {w : Str} {n : Nat} (h : shape w n) : six w := by
  unfold six
  rcases h with ⟨h, _⟩ | ⟨h, _⟩ | ⟨h | h, _⟩ | ⟨h | h, _⟩ <;> simp [h]
def sizeOk : En → Nat → Prop
  | .pr _ _, n => n = 1
  | .am _ _ _, n => n = 2
  | .co _ _ _, n => 4 ≤ n ∧ n ≤ 18 ∧ n % 2 = 0
  | .ni _, n => 2 ≤ n ∧ n ≤ 16 ∧ n % 2 = 0
theorem ne_of_beq {a b : Str} (h : (a == b) = false) : a ≠ b := fun e => by rw [e, beq_self_eq_true] at h; cases h
theorem shape_hd {e : En} (h : ok e) {n : Nat} (s : shape (hdw e) n) : sizeOk e n := by
  obtain ⟨d1, d2, d3, d4, d5, d6, d7, d8, d9, d10, d11, d12, d13, d14, d15, d16, d17, d18, d19, d20, d21, d22, d23, d24, d25, d26, d27, d28, d29, d30⟩ := hd_diff
  cases e with
  | pr k m =>
    rcases h.1 with rfl | rfl
    · rcases s with ⟨z, _⟩ | ⟨z, _⟩ | ⟨_, z⟩ | ⟨z | z, _⟩
      · exact (ne_of_beq d2 z).elim
      · exact (ne_of_beq d7 z).elim
      · exact z
      · exact (ne_of_beq d11 z).elim
      · exact (ne_of_beq d16 z).elim
    · rcases s with ⟨z, _⟩ | ⟨z, _⟩ | ⟨_, z⟩ | ⟨z | z, _⟩
      · exact (ne_of_beq d3 z).elim
      · exact (ne_of_beq d8 z).elim
      · exact z
      · exact (ne_of_beq d12 z).elim
      · exact (ne_of_beq d17 z).elim
  | am k m a =>
    rcases h.1 with rfl | rfl
    · rcases s with ⟨z, _⟩ | ⟨z, _⟩ | ⟨z | z, _⟩ | ⟨_, z⟩
      · exact (ne_of_beq d4 z).elim
      · exact (ne_of_beq d9 z).elim
      · exact (ne_of_beq d21 z).elim
      · exact (ne_of_beq d26 z).elim
      · exact z
    · rcases s with ⟨z, _⟩ | ⟨z, _⟩ | ⟨z | z, _⟩ | ⟨_, z⟩
      · exact (ne_of_beq d5 z).elim
      · exact (ne_of_beq d10 z).elim
      · exact (ne_of_beq d22 z).elim
      · exact (ne_of_beq d27 z).elim
      · exact z
  | co m1 m2 st =>
    rcases s with ⟨_, z⟩ | ⟨z, _⟩ | ⟨z | z, _⟩ | ⟨z | z, _⟩
    · exact z
    · exact (ne_of_beq d1 z).elim
    · exact (ne_of_beq d24 z).elim
    · exact (ne_of_beq d29 z).elim
    · exact (ne_of_beq d15 z).elim
    · exact (ne_of_beq d20 z).elim
  | ni w =>
    rcases s with ⟨z, _⟩ | ⟨_, z⟩ | ⟨z | z, _⟩ | ⟨z | z, _⟩
    · exact (ne_of_beq d6 z).elim
    · exact z
    · exact (ne_of_beq d25 z).elim
    · exact (ne_of_beq d30 z).elim
    · exact (ne_of_beq d14 z).elim
    · exact (ne_of_beq d19 z).elim
theorem tl_size {e : En} (h : ok e) (n : nm e) : sizeOk e (tlw e).length := by
  cases e with
  | pr k m => rfl
  | am k m a => rfl
  | co m1 m2 st =>
    have h1 := h.2.2.1
    have n1 := n.2.2.1
    have e : (tlw (.co m1 m2 st)).length = 2 * st.length + 2 := by
      show (m1 :: m2 :: flat st).length = _
      rw [List.length_cons, List.length_cons, flat2 (fun _ => rfl)]
    rw [e]
    show 4 ≤ 2 * st.length + 2 ∧ 2 * st.length + 2 ≤ 18 ∧ (2 * st.length + 2) % 2 = 0
    omega
  | ni w =>
    have h1 := h.1
    have n1 : 1 ≤ w.length := n
    have e : (tlw (.ni w)).length = 2 * w.length := by
      show (w.flatMap fun p => [ts p.1, ts p.2]).length = _
      rw [flat2 (fun _ => rfl)]
    rw [e]
    show 2 ≤ 2 * w.length ∧ 2 * w.length ≤ 16 ∧ (2 * w.length) % 2 = 0
    omega
theorem tl_bound {e : En} (h : ok e) (n : nm e) : 1 ≤ (tlw e).length ∧ (tlw e).length ≤ 18 := by
  have := tl_size h n
  cases e <;> (simp only [sizeOk] at this; omega)
theorem ud_len : 1 ≤ (S' "up").length ∧ 1 ≤ (S' "down").length := by decide +kernel
theorem ts_pos {a : Int} (h : few a) : 1 ≤ (ts a).length := by
  rw [ts_num h, ← cl_len]
  exact num_pos _
theorem tl_pos {e : En} (h : ok e) (n : nm e) : ∀ x ∈ tlw e, 1 ≤ x.length := by
  intro x hx
  cases e with
  | pr k m => rw [List.mem_singleton.mp hx]; exact n.1
  | am k m a =>
    rcases List.mem_cons.mp hx with rfl | hx
    · exact n.1
    · rw [List.mem_singleton.mp hx]; exact ts_pos h.2.2
  | co m1 m2 st =>
    obtain ⟨h1, h2, h3, h4⟩ := n
    rcases List.mem_cons.mp hx with rfl | hx
    · exact h1.1
    · rcases List.mem_cons.mp hx with rfl | hx
      · exact h2.1
      · obtain ⟨p, hp, z⟩ := flat_mem hx
        rcases z with rfl | rfl
        · exact (h4 p hp).1.1
        · rcases (h4 p hp).2 with e | e <;> rw [e]
          · exact ud_len.1
          · exact ud_len.2
  | ni w =>
    obtain ⟨p, hp, hw⟩ := List.mem_flatMap.mp hx
    rcases List.mem_cons.mp hw with rfl | hw
    · exact ts_pos (h.2 p hp).1
    · rw [List.mem_singleton.mp hw]; exact ts_pos (h.2 p hp).2
theorem fit_words {e : En} (h : ok e) (n : nm e) : ∀ x ∈ hdw e :: tlw e, sol x ∧ x.length ≤ 12 := fun x hx => by
  rw [← words_cons] at hx
  exact ⟨sol_words h n x hx, (short e h).2 x hx⟩
end Lw
namespace Lk
open PySem PySem.Spec PyProof.Rows L2
theorem slice_front (xs : List D) : D.slice (.lst xs) none (some (-1)) = .ok (.lst (xs.take (xs.length - 1))) := by
  show Res.ok (D.lst (cutD xs none (some (-1)))) = _
  unfold cutD
  have e : HT.sIx xs.length xs.length (some (-1)) = xs.length - 1 := by
    show (if (-1 : Int) < 0 then ((-1 : Int) + (xs.length : Int)).toNat else min (-1 : Int).toNat xs.length) = xs.length - 1
    rw [if_pos (by decide)]
    omega
  have e0 : HT.sIx xs.length 0 none = 0 := rfl
  rw [e, e0, List.drop_zero, Nat.sub_zero]
end Lk
namespace Lw
open PySem Lk
/-- what the bad row is -/
def none_ (x : D) : Prop := ∃ w r, x = .lst ((w :: r).map D.str) ∧ r.length ≤ 60 ∧ (∀ y ∈ w :: r, fitW y) ∧ off w r ∧ ¬ (w = S' "" ∧ r = [])
theorem fit_of {x : Str} (h : sol x ∧ x.length ≤ 12) : fitW x := ⟨h.1, by omega⟩
theorem sol_cat {a b : Str} (ha : sol a) (hb : sol b) : sol (a ++ b) := by
  unfold sol
  rw [cl_cat]
  exact ⟨fun q => (List.mem_append.mp q).elim ha.1 hb.1, fun q => (List.mem_append.mp q).elim ha.2 hb.2⟩
theorem consts : sol (S' "a") ∧ sol (S' "") ∧ sol (S' "A") ∧ sol (S' "0") ∧ sol (S' "aaaaaaaaaaaa") ∧ sol (S' "000000000000") ∧ sol (S' "s") ∧ sol (S' "1_0") ∧ sol (S' "-1") ∧ sol (S' "+1") ∧ sol (S' "1") ∧ sol (S' "20") := by
  unfold sol
  refine ⟨?_, ?_, ?_, ?_, ?_, ?_, ?_, ?_, ?_, ?_, ?_, ?_⟩ <;> decide +kernel
theorem const_len : (S' "a").length = 1 ∧ (S' "A").length = 1 ∧ (S' "0").length = 1 ∧ (S' "aaaaaaaaaaaa").length = 12 ∧ (S' "000000000000").length = 12 ∧ (S' "s").length = 1 ∧ (S' "1_0").length = 3 ∧ (S' "-1").length = 2 ∧ (S' "+1").length = 2 ∧ (S' "1").length = 1 ∧ (S' "20").length = 2 ∧ (S' "").length = 0 := by decide +kernel
theorem mapL (a b : List Str) : (a ++ b).map D.str = a.map D.str ++ b.map D.str := List.map_append
theorem six_em : ¬ six (S' "") := by unfold six; decide +kernel
/-- by another size -/
theorem none_size {e : En} {r : List Str} (h : ok e) (hl : r.length ≤ 60) (hf : ∀ y ∈ hdw e :: r, fitW y) (hs : ¬ sizeOk e r.length) : none_ (.lst ((hdw e :: r).map D.str)) :=
  ⟨hdw e, r, rfl, hl, hf, .inl fun s => hs (shape_hd h s), fun z => six_em (by rw [← z.1]; exact hd_six h)⟩
theorem none_head {w : Str} {r : List Str} (hl : r.length ≤ 60) (hf : ∀ y ∈ w :: r, fitW y) (hs : ¬ six w) (hz : ¬ (w = S' "" ∧ r = [])) : none_ (.lst ((w :: r).map D.str)) :=
  ⟨w, r, rfl, hl, hf, .inl fun s => hs (shape_six s), hz⟩
theorem none_word {w x : Str} {r : List Str} (hl : r.length ≤ 60) (hf : ∀ y ∈ w :: r, fitW y) (hx : x ∈ r) (hb : badw x) : none_ (.lst ((w :: r).map D.str)) :=
  ⟨w, r, rfl, hl, hf, .inr ⟨x, hx, hb⟩, fun z => by rw [z.2] at hx; cases hx⟩
theorem size_more {e : En} (h : ok e) (n : nm e) : ¬ sizeOk e ((tlw e).length + 1) := by
  have := tl_size h n
  cases e <;> (simp only [sizeOk] at this ⊢; omega)
theorem size_less {e : En} (h : ok e) (n : nm e) : ¬ sizeOk e ((tlw e).length - 1) := by
  have := tl_size h n
  cases e <;> (simp only [sizeOk] at this ⊢; omega)
theorem six_up {w : Str} (h : six w) : ¬ six (Txt.upper w) ∧ sol (Txt.upper w) ∧ (Txt.upper w).length ≤ 300 := by
  unfold six sol at *
  rcases h with rfl | rfl | rfl | rfl | rfl | rfl <;> decide +kernel
theorem six_s {w : Str} (h : six w) : ¬ six (w ++ S' "s") := by
  unfold six at *
  rcases h with rfl | rfl | rfl | rfl | rfl | rfl <;> decide +kernel
theorem six_tab {w : Str} (h : six w) : 9 ∉ cl w := by
  unfold six at h
  rcases h with rfl | rfl | rfl | rfl | rfl | rfl <;> decide +kernel
theorem tab_cl : cl (S' "\t") = [9] := by decide +kernel
theorem toI_int (x : Int) : D.toI (.int x) = .ok (some x) := rfl
theorem put_eq {w z : Str} {r : List Str} {k : Nat} (hl : r.length ≤ 60) (hk : k < r.length) : m__law_put (.lst ((w :: r).map D.str)) (.int ((k + 1 : Nat) : Int)) (.str z) = .ok (.lst ((w :: (r.take k ++ z :: r.drop (k + 1))).map D.str)) := by
  have s1 : D.slice (.lst ((w :: r).map D.str)) none (some ((k + 1 : Nat) : Int)) = .ok (.lst ((w :: r.take k).map D.str)) := by
    rw [slice_to]; simp [List.map_take]
  have ai : D.add (.int ((k + 1 : Nat) : Int)) (.int 1) = .ok (.int ((k + 2 : Nat) : Int)) := by
    rw [Lk.add_int]
    refine congrArg (fun z => Res.ok (D.int z)) ?_
    omega
  have s2 : D.slice (.lst ((w :: r).map D.str)) (some ((k + 2 : Nat) : Int)) none = .ok (.lst ((r.drop (k + 1)).map D.str)) := by
    rw [slice_from]; simp [List.map_drop]
  have a1 : D.add (.lst ((w :: r.take k).map D.str)) (.lst [.str z]) = .ok (.lst ((w :: r.take k).map D.str ++ [.str z])) := Lk.add_lst (by simp; omega)
  have a2 : D.add (.lst ((w :: r.take k).map D.str ++ [.str z])) (.lst ((r.drop (k + 1)).map D.str)) = .ok (.lst ((w :: r.take k).map D.str ++ [.str z] ++ (r.drop (k + 1)).map D.str)) := Lk.add_lst (by simp; omega)
  simp -implicitDefEqProofs only [m__law_put, bind_ok, toI_int, s1, sized_1, a1, ai, s2, a2, fin_rt]
  simp
section
variable {e : En} (h : ok e) (n : nm e) {k : Nat} (hk : k < (tlw e).length)
include h n hk
theorem it_at : D.item (.lst ((hdw e :: tlw e).map D.str)) (.int ((k + 1 : Nat) : Int)) = .ok (.str (tlw e)[k]) := by
  rw [item_lst (by simp; omega)]; simp
theorem way_0 : ∃ x, m__law_bad_words (.lst ((hdw e :: tlw e).map D.str)) (.int 0) (.int ((k + 1 : Nat) : Int)) = .ok x ∧ none_ x := by
  have fw := fit_words h n
  have b := tl_bound h n
  refine ⟨.lst ((hdw e :: (tlw e ++ [S' "a"])).map D.str), ?_, none_size h (by simp; omega) (fun y hy => ?_) (by rw [List.length_append]; exact size_more h n)⟩
  · have ad : D.add (.lst ((hdw e :: tlw e).map D.str)) (.lst [.str (S' "a")]) = .ok (.lst ((hdw e :: tlw e).map D.str ++ [.str (S' "a")])) := Lk.add_lst (by simp; omega)
    simp -implicitDefEqProofs only [m__law_bad_words, bind_ok, it_at h n hk, Lk.eq_int, beq_self_eq_true, toB_bl, if_true, sized_1, ad, up_ok, oup_rt, fin_rt]
    simp
  · rcases List.mem_cons.mp hy with rfl | hy
    · exact fit_of (fw _ (by simp))
    · rcases List.mem_append.mp hy with hy | hy
      · exact fit_of (fw _ (by simp [hy]))
      · rw [List.mem_singleton.mp hy]; exact ⟨consts.1, by rw [const_len.1]; omega⟩
theorem way_1 : ∃ x, m__law_bad_words (.lst ((hdw e :: tlw e).map D.str)) (.int 1) (.int ((k + 1 : Nat) : Int)) = .ok x ∧ none_ x := by
  have fw := fit_words h n
  have b := tl_bound h n
  refine ⟨.lst ((hdw e :: (tlw e).take ((tlw e).length - 1)).map D.str), ?_, none_size h (by simp; omega) (fun y hy => ?_) (by rw [List.length_take, Nat.min_eq_left (by omega)]; exact size_less h n)⟩
  · have sl : D.slice (.lst ((hdw e :: tlw e).map D.str)) none (some (-1)) = .ok (.lst ((hdw e :: (tlw e).take ((tlw e).length - 1)).map D.str)) := by
      rw [slice_front, List.length_map, List.length_cons]
      obtain ⟨m, hm⟩ : ∃ m, (tlw e).length = m + 1 := ⟨(tlw e).length - 1, by omega⟩
      rw [hm]
      simp [List.map_take]
    have q0 : ((1 : Int) == 0) = false := rfl
    simp -implicitDefEqProofs only [m__law_bad_words, bind_ok, it_at h n hk, Lk.eq_int, q0, beq_self_eq_true, toB_bl, Bool.false_eq_true, if_false, if_true, neg_int, toI_int, sl, up_ok, oup_rt, fin_rt]
  · rcases List.mem_cons.mp hy with rfl | hy
    · exact fit_of (fw _ (by simp))
    · exact fit_of (fw _ (by simp [List.mem_of_mem_take hy]))
theorem way_2 : ∃ x, m__law_bad_words (.lst ((hdw e :: tlw e).map D.str)) (.int 2) (.int ((k + 1 : Nat) : Int)) = .ok x ∧ none_ x := by
  have fw := fit_words h n
  have b := tl_bound h n
  have su : D.sub (.int ((k + 1 : Nat) : Int)) (.int 1) = .ok (.int (k : Int)) := by
    rw [Lk.sub_int]
    refine congrArg (fun z => Res.ok (D.int z)) ?_
    omega
  have s1 : D.slice (.lst ((hdw e :: tlw e).map D.str)) none (some (k : Int)) = .ok (.lst (((hdw e :: tlw e).take k).map D.str)) := by rw [slice_to, List.map_take]
  have s2 : D.slice (.lst ((hdw e :: tlw e).map D.str)) (some (k : Int)) none = .ok (.lst (((hdw e :: tlw e).drop k).map D.str)) := by rw [slice_from, List.map_drop]
  have a1 : D.add (.lst (((hdw e :: tlw e).take k).map D.str)) (.lst [.str (S' "")]) = .ok (.lst (((hdw e :: tlw e).take k).map D.str ++ [.str (S' "")])) := Lk.add_lst (by simp; omega)
  have a2 : D.add (.lst (((hdw e :: tlw e).take k).map D.str ++ [.str (S' "")])) (.lst (((hdw e :: tlw e).drop k).map D.str)) = .ok (.lst (((hdw e :: tlw e).take k).map D.str ++ [.str (S' "")] ++ ((hdw e :: tlw e).drop k).map D.str)) := Lk.add_lst (by simp; omega)
  have q0 : ((2 : Int) == 0) = false := rfl
  have q1 : ((2 : Int) == 1) = false := rfl
  have run : m__law_bad_words (.lst ((hdw e :: tlw e).map D.str)) (.int 2) (.int ((k + 1 : Nat) : Int)) = .ok (.lst (((hdw e :: tlw e).take k ++ S' "" :: (hdw e :: tlw e).drop k).map D.str)) := by
    simp -implicitDefEqProofs only [m__law_bad_words, bind_ok, it_at h n hk, Lk.eq_int, q0, q1, beq_self_eq_true, toB_bl, Bool.false_eq_true, if_false, if_true, su, toI_int, s1, s2, sized_1, a1, a2, up_ok, oup_rt, fin_rt]
    simp
  cases k with
  | zero =>
    refine ⟨_, run, ?_⟩
    refine none_head (w := S' "") (r := hdw e :: tlw e) (by simp; omega) (fun y hy => ?_) six_em (fun z => by cases z.2)
    rcases List.mem_cons.mp hy with rfl | hy
    · exact ⟨consts.2.1, by decide +kernel⟩
    · exact fit_of (fw _ hy)
  | succ j =>
    refine ⟨_, run, ?_⟩
    have e1 : (hdw e :: tlw e).take (j + 1) ++ S' "" :: (hdw e :: tlw e).drop (j + 1) = hdw e :: ((tlw e).take j ++ S' "" :: (tlw e).drop j) := by simp
    rw [e1]
    refine none_size h (by simp; omega) (fun y hy => ?_) ?_
    · rcases List.mem_cons.mp hy with rfl | hy
      · exact fit_of (fw _ (by simp))
      · rcases List.mem_append.mp hy with hy | hy
        · exact fit_of (fw _ (by simp [List.mem_of_mem_take hy]))
        · rcases List.mem_cons.mp hy with rfl | hy
          · exact ⟨consts.2.1, by decide +kernel⟩
          · exact fit_of (fw _ (by simp [List.mem_of_mem_drop hy]))
    · have : ((tlw e).take j ++ S' "" :: (tlw e).drop j).length = (tlw e).length + 1 := by simp; omega
      rw [this]
      exact size_more h n
theorem way_34 (v : Int) (hv : v = 3 ∨ v = 4) : ∃ x, m__law_bad_words (.lst ((hdw e :: tlw e).map D.str)) (.int v) (.int ((k + 1 : Nat) : Int)) = .ok x ∧ none_ x := by
  have fw := fit_words h n
  have b := tl_bound h n
  have s6 := hd_six h
  have it0 : D.item (.lst ((hdw e :: tlw e).map D.str)) (.int 0) = .ok (.str (hdw e)) := item_lst (k := 0) (by simp)
  have s1 : D.slice (.lst ((hdw e :: tlw e).map D.str)) (some 1) none = .ok (.lst ((tlw e).map D.str)) := slice_from (k := 1)
  have hl := (fw (hdw e) (by simp)).2
  have rest : ∀ y ∈ tlw e, fitW y := fun y hy => fit_of (fw _ (by simp [hy]))
  rcases hv with rfl | rfl
  · obtain ⟨u1, u2, u3⟩ := six_up s6
    have up : D.upper (.str (hdw e)) = .ok (.str (Txt.upper (hdw e))) := if_pos (by omega)
    have a1 : D.add (.lst [.str (Txt.upper (hdw e))]) (.lst ((tlw e).map D.str)) = .ok (.lst ([.str (Txt.upper (hdw e))] ++ (tlw e).map D.str)) := Lk.add_lst (by simp; omega)
    have q0 : ((3 : Int) == 0) = false := rfl
    have q1 : ((3 : Int) == 1) = false := rfl
    have q2 : ((3 : Int) == 2) = false := rfl
    refine ⟨.lst ((Txt.upper (hdw e) :: tlw e).map D.str), ?_, none_head (by omega) (fun y hy => ?_) u1 (fun z => by have := b.1; rw [z.2] at this; simp at this)⟩
    · simp -implicitDefEqProofs only [m__law_bad_words, bind_ok, it_at h n hk, Lk.eq_int, q0, q1, q2, beq_self_eq_true, toB_bl, Bool.false_eq_true, if_false, if_true, it0, up, sized_1, toI_int, s1, a1, up_ok, oup_rt, fin_rt]
      rfl
    · rcases List.mem_cons.mp hy with rfl | hy
      · exact ⟨u2, u3⟩
      · exact rest y hy
  · have ls : (S' "s").length = 1 := by decide +kernel
    have ad : D.add (.str (hdw e)) (.str (S' "s")) = .ok (.str (hdw e ++ S' "s")) := add_str (by omega)
    have a1 : D.add (.lst [.str (hdw e ++ S' "s")]) (.lst ((tlw e).map D.str)) = .ok (.lst ([.str (hdw e ++ S' "s")] ++ (tlw e).map D.str)) := Lk.add_lst (by simp; omega)
    have q0 : ((4 : Int) == 0) = false := rfl
    have q1 : ((4 : Int) == 1) = false := rfl
    have q2 : ((4 : Int) == 2) = false := rfl
    have q3 : ((4 : Int) == 3) = false := rfl
    refine ⟨.lst (((hdw e ++ S' "s") :: tlw e).map D.str), ?_, none_head (by omega) (fun y hy => ?_) (six_s s6) (fun z => by have := b.1; rw [z.2] at this; simp at this)⟩
    · simp -implicitDefEqProofs only [m__law_bad_words, bind_ok, it_at h n hk, Lk.eq_int, q0, q1, q2, q3, beq_self_eq_true, toB_bl, Bool.false_eq_true, if_false, if_true, it0, ad, sized_1, toI_int, s1, a1, up_ok, oup_rt, fin_rt]
      rfl
    · rcases List.mem_cons.mp hy with rfl | hy
      · refine ⟨sol_cat (fw _ (by simp)).1 consts.2.2.2.2.2.2.1, ?_⟩
        rw [strcat_len]; omega
      · exact rest y hy
theorem way_mid (j : Nat) (hj : j < 6) : ∃ x, m__law_bad_words (.lst ((hdw e :: tlw e).map D.str)) (.int ((j + 5 : Nat) : Int)) (.int ((k + 1 : Nat) : Int)) = .ok x ∧ none_ x := by
  have fw := fit_words h n
  have b := tl_bound h n
  obtain ⟨w, hw⟩ : ∃ w, w = (tlw e)[k] := ⟨_, rfl⟩
  have wm : w ∈ tlw e := by rw [hw]; exact List.getElem_mem hk
  have wf := fw w (by simp [wm])
  have wp := tl_pos h n w wm
  have hit := it_at h n hk
  rw [← hw] at hit
  obtain ⟨c1, c2, c3, c4, c5, c6, c7, c8, c9, c10, c11, c12⟩ := consts
  obtain ⟨l1, l2, l3, l4, l5, l6, l7, l8, l9, l10, l11, l12⟩ := const_len
  have a1 : D.add (.str w) (.str (S' "A")) = .ok (.str (w ++ S' "A")) := add_str (by omega)
  have a2 : D.add (.str (S' "0")) (.str w) = .ok (.str (S' "0" ++ w)) := add_str (by omega)
  have a3 : D.add (.str w) (.str (S' "aaaaaaaaaaaa")) = .ok (.str (w ++ S' "aaaaaaaaaaaa")) := add_str (by omega)
  have a4 : D.add (.str w) (.str (S' "000000000000")) = .ok (.str (w ++ S' "000000000000")) := add_str (by omega)
  have s1 := strcat_len w (S' "A")
  have s2 := strcat_len (S' "0") w
  have s3 := strcat_len w (S' "aaaaaaaaaaaa")
  have s4 := strcat_len w (S' "000000000000")
  have bA : badw (w ++ S' "A") := by
    have eA : cl (S' "A") = [65] := by decide +kernel
    exact badw_sign (c := 65) (by omega) (by rw [cl_cat, eA]; simp) (by decide +kernel) (by decide +kernel)
  have b0 := badw_zero (w := w) (by omega) wp
  have b3 : badw (w ++ S' "aaaaaaaaaaaa") := badw_size (by omega) (by omega)
  have b4 : badw (w ++ S' "000000000000") := badw_size (by omega) (by omega)
  have be : badw (S' "") := badw_size (by omega) (by omega)
  have cst : ∀ z ∈ [S' "1_0", S' "-1", S' "+1"], badw z ∧ fitW z := by
    intro z hz
    simp only [List.mem_cons, List.not_mem_nil, or_false] at hz
    rcases hz with rfl | rfl | rfl
    · exact ⟨badw_sign (c := 95) (by omega) (by decide +kernel) (by decide +kernel) (by decide +kernel), c8, by omega⟩
    · exact ⟨badw_sign (c := 45) (by omega) (by decide +kernel) (by decide +kernel) (by decide +kernel), c9, by omega⟩
    · exact ⟨badw_sign (c := 43) (by omega) (by decide +kernel) (by decide +kernel) (by decide +kernel), c10, by omega⟩
  have md : D.mod (.int ((k + 1 : Nat) : Int)) (.int 3) = .ok (.int (((k + 1) % 3 : Nat) : Int)) := by
    rw [mod_int (by decide)]
    refine congrArg (fun z => Res.ok (D.int z)) ?_
    omega
  obtain ⟨z, hz, it3⟩ : ∃ z ∈ [S' "1_0", S' "-1", S' "+1"], D.item (.lst [.str (S' "1_0"), .str (S' "-1"), .str (S' "+1")]) (.int (((k + 1) % 3 : Nat) : Int)) = .ok (.str z) := by
    have : (k + 1) % 3 = 0 ∨ (k + 1) % 3 = 1 ∨ (k + 1) % 3 = 2 := by omega
    rcases this with q | q | q <;> rw [q]
    · exact ⟨S' "1_0", by simp, rfl⟩
    · exact ⟨S' "-1", by simp, rfl⟩
    · exact ⟨S' "+1", by simp, rfl⟩
  have su : D.sub (.int ((j + 5 : Nat) : Int)) (.int 5) = .ok (.int (j : Int)) := by
    rw [Lk.sub_int]
    refine congrArg (fun z => Res.ok (D.int z)) ?_
    omega
  obtain ⟨y, hy, hb, fy⟩ : ∃ y, D.item (.lst [.str (w ++ S' "A"), .str (S' ""), .str (S' "0" ++ w), .str (w ++ S' "aaaaaaaaaaaa"), .str (w ++ S' "000000000000"), .str z]) (.int (j : Int)) = .ok (.str y) ∧ badw y ∧ fitW y := by
    have : j = 0 ∨ j = 1 ∨ j = 2 ∨ j = 3 ∨ j = 4 ∨ j = 5 := by omega
    rcases this with rfl | rfl | rfl | rfl | rfl | rfl
    · exact ⟨_, rfl, bA, sol_cat wf.1 c3, by omega⟩
    · exact ⟨_, rfl, be, c2, by omega⟩
    · exact ⟨_, rfl, b0, sol_cat c4 wf.1, by omega⟩
    · exact ⟨_, rfl, b3, sol_cat wf.1 c5, by omega⟩
    · exact ⟨_, rfl, b4, sol_cat wf.1 c6, by omega⟩
    · exact ⟨_, rfl, (cst z hz).1, (cst z hz).2⟩
  have qe : ∀ i : Int, (i = 0 ∨ i = 1 ∨ i = 2 ∨ i = 3 ∨ i = 4) → (((j + 5 : Nat) : Int) == i) = false := fun i hi => beq_eq_false_iff_ne.mpr (by omega)
  have lt : D.lt (.int ((j + 5 : Nat) : Int)) (.int 11) = .ok (.bl true) := by rw [Lk.lt_int', decide_eq_true (by omega)]
  refine ⟨.lst ((hdw e :: ((tlw e).take k ++ y :: (tlw e).drop (k + 1))).map D.str), ?_, none_word (x := y) (by simp; omega) (fun x hx => ?_) (by simp) hb⟩
  · simp -implicitDefEqProofs only [m__law_bad_words, bind_ok, hit, Lk.eq_int, qe 0 (by omega), qe 1 (by omega), qe 2 (by omega), qe 3 (by omega), qe 4 (by omega), toB_bl, Bool.false_eq_true, if_false, lt, if_true, a1, a2, a3, a4, sized_3, md, it3, sized_6, su, hy, F3_eq, put_eq (show (tlw e).length ≤ 60 by omega) hk, up_ok, oup_rt, fin_rt]
  · rcases List.mem_cons.mp hx with rfl | hx
    · exact fit_of (fw _ (by simp))
    · rcases List.mem_append.mp hx with hx | hx
      · exact fit_of (fw _ (by simp [List.mem_of_mem_take hx]))
      · rcases List.mem_cons.mp hx with rfl | hx
        · exact fy
        · exact fit_of (fw _ (by simp [List.mem_of_mem_drop hx]))
end
end Lw
namespace Lw
open PySem Lk
def manyD : D := .dic (List.zip [Str.ofString "come", Str.ofString "night"] [.int 3, .int 1])
def manyN : En → Nat
  | .co _ _ _ => 3
  | _ => 1
theorem many_eq {e : En} (h : ok e) : D.getO manyD (.str (hdw e)) (.int 1) = .ok (.int (manyN e : Int)) := by
  cases e with
  | pr k m => rcases h.1 with rfl | rfl <;> rfl
  | am k m a => rcases h.1 with rfl | rfl <;> rfl
  | co m1 m2 st => rfl
  | ni w => rfl
theorem many_cut {e : En} (h : ok e) : (tlw e).take (manyN e - 1) = match e with | .co a b _ => [a, b] | _ => [] := by
  cases e <;> rfl
theorem many_len (e : En) : ((tlw e).take (manyN e - 1)).length = manyN e - 1 := by cases e <;> rfl
theorem many_le (e : En) : 1 ≤ manyN e ∧ manyN e ≤ 3 := by cases e <;> (simp only [manyN]; omega)
def pairE : En → List Str
  | .ni _ => [S' "1", S' "20"]
  | _ => [S' "a", S' "up"]
theorem pair_mul {a b : Str} : D.rep [.str a, .str b] (.int 9) = .ok ((List.replicate 9 [a, b]).flatten.map D.str) := by rfl
section
variable {e : En} (h : ok e) (n : nm e) {k : Nat} (hk : k < (tlw e).length)
include h n hk
theorem way_11 : ∃ x, m__law_bad_words (.lst ((hdw e :: tlw e).map D.str)) (.int 11) (.int ((k + 1 : Nat) : Int)) = .ok x ∧ none_ x := by
  have fw := fit_words h n
  have b := tl_bound h n
  have it0 : D.item (.lst ((hdw e :: tlw e).map D.str)) (.int 0) = .ok (.str (hdw e)) := item_lst (k := 0) (by simp)
  have q : ∀ i : Int, (i = 0 ∨ i = 1 ∨ i = 2 ∨ i = 3 ∨ i = 4) → ((11 : Int) == i) = false := fun i hi => beq_eq_false_iff_ne.mpr (by omega)
  have lt : D.lt (.int 11) (.int 11) = .ok (.bl false) := rfl
  have me := many_eq h
  unfold manyD at me
  have ml := many_le e
  have sl : D.slice (.lst ((hdw e :: tlw e).map D.str)) none (some (manyN e : Int)) = .ok (.lst ((hdw e :: (tlw e).take (manyN e - 1)).map D.str)) := by
    rw [slice_to]
    obtain ⟨m, hm⟩ : ∃ m, manyN e = m + 1 := ⟨manyN e - 1, by omega⟩
    rw [hm]
    simp [List.map_take]
  obtain ⟨p, hp, z⟩ : ∃ p : Str × Str, (∀ y ∈ [p.1, p.2], fitW y) ∧ m__law_bad_words (.lst ((hdw e :: tlw e).map D.str)) (.int 11) (.int ((k + 1 : Nat) : Int)) = .ok (.lst ((hdw e :: ((tlw e).take (manyN e - 1) ++ (List.replicate 9 [p.1, p.2]).flatten)).map D.str)) := by
    obtain ⟨c1, c2, c3, c4, c5, c6, c7, c8, c9, c10, c11, c12⟩ := consts
    obtain ⟨l1, l2, l3, l4, l5, l6, l7, l8, l9, l10, l11, l12⟩ := const_len
    have su : sol (S' "up") := sol_kw.2.2.2.2.2.2.1
    have lu : (S' "up").length ≤ 300 := by decide +kernel
    have tk : ((tlw e).take (manyN e - 1)).length ≤ 3 := by rw [many_len]; omega
    cases hh : (hdw e == S' "night") with
    | true =>
      refine ⟨(S' "1", S' "20"), ?_, ?_⟩
      · intro y hy
        simp only [List.mem_cons, List.not_mem_nil, or_false] at hy
        rcases hy with rfl | rfl
        · exact ⟨c11, by omega⟩
        · exact ⟨c12, by omega⟩
      · have ad : D.add (.lst ((hdw e :: (tlw e).take (manyN e - 1)).map D.str)) (.lst ((List.replicate 9 [S' "1", S' "20"]).flatten.map D.str)) = .ok (.lst ((hdw e :: (tlw e).take (manyN e - 1)).map D.str ++ (List.replicate 9 [S' "1", S' "20"]).flatten.map D.str)) := Lk.add_lst (by rw [List.length_map, List.length_cons, List.length_map]; exact Nat.le_trans (Nat.add_le_add_right (Nat.succ_le_succ tk) _) (by decide))
        simp -implicitDefEqProofs only [m__law_bad_words, bind_ok, it_at h n hk, Lk.eq_int, q 0 (by omega), q 1 (by omega), q 2 (by omega), q 3 (by omega), q 4 (by omega), lt, beq_self_eq_true, toB_bl, Bool.false_eq_true, if_false, if_true, sized_2, it0, Lk.eq_str, hh, then_nx, dicC_dic, me, toI_int, sl, pair_mul, ad, up_ok, oup_rt, fin_rt]
        simp only [List.map_cons, List.map_append, List.cons_append]
    | false =>
      refine ⟨(S' "a", S' "up"), ?_, ?_⟩
      · intro y hy
        simp only [List.mem_cons, List.not_mem_nil, or_false] at hy
        rcases hy with rfl | rfl
        · exact ⟨c1, by omega⟩
        · exact ⟨su, lu⟩
      · have ad : D.add (.lst ((hdw e :: (tlw e).take (manyN e - 1)).map D.str)) (.lst ((List.replicate 9 [S' "a", S' "up"]).flatten.map D.str)) = .ok (.lst ((hdw e :: (tlw e).take (manyN e - 1)).map D.str ++ (List.replicate 9 [S' "a", S' "up"]).flatten.map D.str)) := Lk.add_lst (by rw [List.length_map, List.length_cons, List.length_map]; exact Nat.le_trans (Nat.add_le_add_right (Nat.succ_le_succ tk) _) (by decide))
        simp -implicitDefEqProofs only [m__law_bad_words, bind_ok, it_at h n hk, Lk.eq_int, q 0 (by omega), q 1 (by omega), q 2 (by omega), q 3 (by omega), q 4 (by omega), lt, beq_self_eq_true, toB_bl, Bool.false_eq_true, if_false, if_true, sized_2, it0, Lk.eq_str, hh, then_nx, dicC_dic, me, toI_int, sl, pair_mul, ad, up_ok, oup_rt, fin_rt]
        simp only [List.map_cons, List.map_append, List.cons_append]
  refine ⟨_, z, ?_⟩
  have ll : ((tlw e).take (manyN e - 1) ++ (List.replicate 9 [p.1, p.2]).flatten).length = manyN e - 1 + 18 := by rw [List.length_append, many_len]; rfl
  refine none_size h (by rw [ll]; omega) (fun y hy => ?_) ?_
  · rcases List.mem_cons.mp hy with rfl | hy
    · exact fit_of (fw _ (by simp))
    · rcases List.mem_append.mp hy with hy | hy
      · exact fit_of (fw _ (by simp [List.mem_of_mem_take hy]))
      · obtain ⟨l, hl, hy⟩ := List.mem_flatten.mp hy
        rw [(List.mem_replicate.mp hl).2] at hy
        exact hp y hy
  · rw [ll]
    cases e <;> (simp only [sizeOk, manyN]; omega)
theorem way_12 : ∃ x, m__law_bad_words (.lst ((hdw e :: tlw e).map D.str)) (.int 12) (.int ((k + 1 : Nat) : Int)) = .ok x ∧ none_ x := by
  have fw := fit_words h n
  have it0 : D.item (.lst ((hdw e :: tlw e).map D.str)) (.int 0) = .ok (.str (hdw e)) := item_lst (k := 0) (by simp)
  have q : ∀ i : Int, (i = 0 ∨ i = 1 ∨ i = 2 ∨ i = 3 ∨ i = 4 ∨ i = 11) → ((12 : Int) == i) = false := fun i hi => beq_eq_false_iff_ne.mpr (by omega)
  have lt : D.lt (.int 12) (.int 11) = .ok (.bl false) := rfl
  have me := many_eq h
  unfold manyD at me
  have ml := many_le e
  have sl : D.slice (.lst ((hdw e :: tlw e).map D.str)) none (some (manyN e : Int)) = .ok (.lst ((hdw e :: (tlw e).take (manyN e - 1)).map D.str)) := by
    rw [slice_to]
    obtain ⟨m, hm⟩ : ∃ m, manyN e = m + 1 := ⟨manyN e - 1, by omega⟩
    rw [hm]
    simp [List.map_take]
  refine ⟨.lst ((hdw e :: (tlw e).take (manyN e - 1)).map D.str), ?_, none_size h (by rw [many_len]; omega) (fun y hy => ?_) ?_⟩
  · simp -implicitDefEqProofs only [m__law_bad_words, bind_ok, it_at h n hk, Lk.eq_int, q 0 (by omega), q 1 (by omega), q 2 (by omega), q 3 (by omega), q 4 (by omega), q 11 (by omega), lt, beq_self_eq_true, toB_bl, Bool.false_eq_true, if_false, if_true, it0, dicC_dic, me, toI_int, sl, up_ok, oup_rt, fin_rt]
  · rcases List.mem_cons.mp hy with rfl | hy
    · exact fit_of (fw _ (by simp))
    · exact fit_of (fw _ (by simp [List.mem_of_mem_take hy]))
  · rw [many_len]
    cases e <;> (simp only [sizeOk, manyN]; omega)
theorem way_13 : ∃ x, m__law_bad_words (.lst ((hdw e :: tlw e).map D.str)) (.int 13) (.int ((k + 1 : Nat) : Int)) = .ok x ∧ none_ x := by
  have fw := fit_words h n
  have b := tl_bound h n
  have q : ∀ i : Int, (i = 0 ∨ i = 1 ∨ i = 2 ∨ i = 3 ∨ i = 4 ∨ i = 11 ∨ i = 12) → ((13 : Int) == i) = false := fun i hi => beq_eq_false_iff_ne.mpr (by omega)
  have lt : D.lt (.int 13) (.int 11) = .ok (.bl false) := rfl
  have tl : (S' "\t").length = 1 := by decide +kernel
  have sm := sum_le (hdw e :: tlw e) (fun x hx => (fw x hx).2)
  have jl := tjoin_len (S' "\t") (hdw e :: tlw e)
  rw [tl] at jl
  have lc : (hdw e :: tlw e).length = (tlw e).length + 1 := rfl
  have jn : D.join (.str (S' "\t")) (.lst ((hdw e :: tlw e).map D.str)) = .ok (.str (Txt.join (S' "\t") (hdw e :: tlw e))) := join_ok (by rw [tl]; omega)
  have mem9 : 9 ∈ cl (Txt.join (S' "\t") (hdw e :: tlw e)) := by
    rw [tjoin_eq]
    match ht : tlw e, b.1 with
    | a :: r, _ =>
      show 9 ∈ cl (hdw e ++ S' "\t" ++ Str.join (S' "\t") (a :: r))
      rw [cl_cat, cl_cat, tab_cl]
      simp
  refine ⟨.lst ([Txt.join (S' "\t") (hdw e :: tlw e)].map D.str), ?_, none_head (r := []) (by simp) (fun y hy => ?_) (fun s => six_tab s mem9) (fun z => by rw [z.1] at mem9; cases mem9)⟩
  · simp -implicitDefEqProofs only [m__law_bad_words, bind_ok, it_at h n hk, Lk.eq_int, q 0 (by omega), q 1 (by omega), q 2 (by omega), q 3 (by omega), q 4 (by omega), q 11 (by omega), q 12 (by omega), lt, beq_self_eq_true, toB_bl, Bool.false_eq_true, if_false, if_true, txt_str, jn, sized_1, up_ok, oup_rt, fin_rt]
    rfl
  · rw [List.mem_singleton.mp hy]
    refine ⟨⟨fun z => ?_, fun z => ?_⟩, by omega⟩
    · rw [tjoin_eq] at z
      rcases mem_join z with z | ⟨x, hx, z⟩
      · rw [tab_cl] at z; simp at z
      · exact (fw x hx).1.1 z
    · rw [tjoin_eq] at z
      rcases mem_join z with z | ⟨x, hx, z⟩
      · rw [tab_cl] at z; simp at z
      · exact (fw x hx).1.2 z
theorem way_14 : ∃ x, m__law_bad_words (.lst ((hdw e :: tlw e).map D.str)) (.int 14) (.int ((k + 1 : Nat) : Int)) = .ok x ∧ none_ x := by
  have fw := fit_words h n
  have b := tl_bound h n
  have q : ∀ i : Int, (i = 0 ∨ i = 1 ∨ i = 2 ∨ i = 3 ∨ i = 4 ∨ i = 11 ∨ i = 12 ∨ i = 13) → ((14 : Int) == i) = false := fun i hi => beq_eq_false_iff_ne.mpr (by omega)
  have lt : D.lt (.int 14) (.int 11) = .ok (.bl false) := rfl
  have gt : D.gt (.int 14) (.int 14) = .ok (.bl false) := rfl
  refine ⟨.lst ((hdw e :: (tlw e ++ [S' ""])).map D.str), ?_, none_size h (by simp; omega) (fun y hy => ?_) (by rw [List.length_append]; exact size_more h n)⟩
  · have ad : D.add (.lst ((hdw e :: tlw e).map D.str)) (.lst [.str (S' "")]) = .ok (.lst ((hdw e :: tlw e).map D.str ++ [.str (S' "")])) := Lk.add_lst (by simp; omega)
    simp -implicitDefEqProofs only [m__law_bad_words, bind_ok, it_at h n hk, Lk.eq_int, q 0 (by omega), q 1 (by omega), q 2 (by omega), q 3 (by omega), q 4 (by omega), q 11 (by omega), q 12 (by omega), q 13 (by omega), lt, gt, toB_bl, Bool.false_eq_true, if_false, sized_1, ad, fin_rt]
    simp
  · rcases List.mem_cons.mp hy with rfl | hy
    · exact fit_of (fw _ (by simp))
    · rcases List.mem_append.mp hy with hy | hy
      · exact fit_of (fw _ (by simp [hy]))
      · rw [List.mem_singleton.mp hy]; exact ⟨consts.2.1, by decide +kernel⟩
theorem way_1516 (v : Int) (hv : v = 15 ∨ v = 16) : ∃ x, m__law_bad_words (.lst ((hdw e :: tlw e).map D.str)) (.int v) (.int ((k + 1 : Nat) : Int)) = .ok x ∧ none_ x := by
  have q : ∀ i : Int, (i = 0 ∨ i = 1 ∨ i = 2 ∨ i = 3 ∨ i = 4 ∨ i = 11 ∨ i = 12 ∨ i = 13) → (v == i) = false := fun i hi => beq_eq_false_iff_ne.mpr (by omega)
  have lt : D.lt (.int v) (.int 11) = .ok (.bl false) := by rw [Lk.lt_int', decide_eq_false (by omega)]
  have gt : D.gt (.int v) (.int 14) = .ok (.bl true) := by rw [Lk.gt_int', decide_eq_true (by omega)]
  have run : ∀ xs, D.rep [.str (S' "")] (.int (v - 13)) = .ok xs → m__law_bad_words (.lst ((hdw e :: tlw e).map D.str)) (.int v) (.int ((k + 1 : Nat) : Int)) = .ok (.lst xs) := fun xs hx => by
    simp -implicitDefEqProofs only [m__law_bad_words, bind_ok, it_at h n hk, Lk.eq_int, q 0 (by omega), q 1 (by omega), q 2 (by omega), q 3 (by omega), q 4 (by omega), q 11 (by omega), q 12 (by omega), q 13 (by omega), lt, gt, toB_bl, Bool.false_eq_true, if_false, if_true, sized_1, Lk.sub_int, hx, up_ok, oup_rt, fin_rt]
  have em : fitW (S' "") := ⟨consts.2.1, by decide +kernel⟩
  rcases hv with rfl | rfl
  · refine ⟨_, run [.str (S' ""), .str (S' "")] rfl, none_head (w := S' "") (r := [S' ""]) (by simp) (fun y hy => ?_) six_em (fun z => by cases z.2)⟩
    simp only [List.mem_cons, List.not_mem_nil, or_false] at hy
    rcases hy with rfl | rfl <;> exact em
  · refine ⟨_, run [.str (S' ""), .str (S' ""), .str (S' "")] rfl, none_head (w := S' "") (r := [S' "", S' ""]) (by simp) (fun y hy => ?_) six_em (fun z => by cases z.2)⟩
    simp only [List.mem_cons, List.not_mem_nil, or_false] at hy
    rcases hy with rfl | rfl | rfl <;> exact em
theorem bad_eq (v : Int) (h0 : 0 ≤ v) (h1 : v < 17) : ∃ x, m__law_bad_words (.lst ((words e).map D.str)) (.int v) (.int ((k + 1 : Nat) : Int)) = .ok x ∧ none_ x := by
  rw [words_cons]
  by_cases m : 5 ≤ v ∧ v ≤ 10
  · obtain ⟨j, rfl⟩ : ∃ j : Nat, v = ((j + 5 : Nat) : Int) := ⟨(v - 5).toNat, by omega⟩
    exact way_mid h n hk j (by omega)
  · have : v = 0 ∨ v = 1 ∨ v = 2 ∨ v = 3 ∨ v = 4 ∨ v = 11 ∨ v = 12 ∨ v = 13 ∨ v = 14 ∨ v = 15 ∨ v = 16 := by omega
    rcases this with r | r | r | r | r | r | r | r | r | r | r
    · subst r; exact way_0 h n hk
    · subst r; exact way_1 h n hk
    · subst r; exact way_2 h n hk
    · exact way_34 h n hk v (.inl r)
    · exact way_34 h n hk v (.inr r)
    · subst r; exact way_11 h n hk
    · subst r; exact way_12 h n hk
    · subst r; exact way_13 h n hk
    · subst r; exact way_14 h n hk
    · exact way_1516 h n hk v (.inl r)
    · exact way_1516 h n hk v (.inr r)
end
end Lw
namespace Lw
open PySem Lk
/-! the text -/
abbrev nl : Str := S' "\n"
abbrev em : Str := S' ""
theorem em_cat (x : Str) : em ++ x = x := str_ext (by rw [cl_cat]; rfl)
theorem cat_em (x : Str) : x ++ em = x := str_ext (by rw [cl_cat]; show cl x ++ [] = _; rw [List.append_nil])
theorem cat_assoc (x y z : Str) : x ++ y ++ z = x ++ (y ++ z) := str_ext (by rw [cl_cat, cl_cat, cl_cat, cl_cat, List.append_assoc])
theorem join_em (x : Str) : ∀ r : List Str, Str.join em (x :: r) = x ++ Str.join em r
  | [] => by show x = x ++ em; rw [cat_em]
  | y :: r => by
    show x ++ em ++ Str.join em (y :: r) = x ++ Str.join em (y :: r)
    rw [cat_em]
theorem join_nl (x : Str) (r : List Str) (z : Str) : Str.join nl (x :: (r ++ [z])) = x ++ nl ++ Str.join nl (r ++ [z]) := by
  cases r <;> rfl
theorem text_eq : ∀ rows : List Str, Str.join em (rows.map fun r => r ++ nl) = Str.join nl (rows ++ [em])
  | [] => rfl
  | x :: r => by
    rw [List.map_cons, join_em, text_eq r, List.cons_append, join_nl]
def text (rows : List Str) : Str := Txt.join em (rows.map fun r => r ++ nl)
theorem text_nl (rows : List Str) : text rows = Txt.join nl (rows ++ [em]) := by
  unfold text
  rw [tjoin_eq, tjoin_eq, text_eq]
structure Fit (rows : List Str) : Prop where
  sol : ∀ r ∈ rows, 10 ∉ cl r
  num : rows.length ≤ 100
  sum : (rows.map (·.length)).sum ≤ 90000
theorem text_len {rows : List Str} (h : Fit rows) : (text rows).length ≤ 90500 := by
  rw [text_nl]
  have := tjoin_len nl (rows ++ [em])
  have s := h.sum
  have n := h.num
  rw [List.map_append, List.sum_append, List.length_append, nl_len] at this
  simp only [List.map_cons, List.map_nil, List.sum_cons, List.sum_nil, List.length_singleton, em_len] at this
  omega
theorem text_split {rows : List Str} (h : Fit rows) : D.split (.str (text rows)) (.str (Str.ofString "\n")) = .ok ((rows ++ [em]).map D.str) := by
  have l := text_len h
  rw [split_ok nl_l (by omega)]
  refine congrArg (fun z : List Str => Res.ok (z.map D.str)) ?_
  rw [text_nl]
  refine sp_split nl_cl nl_k (by simp) fun p hp => ?_
  rcases List.mem_append.mp hp with hp | hp
  · exact h.sol p hp
  · rw [List.mem_singleton.mp hp]
    show 10 ∉ ([] : List Nat)
    simp
theorem text_join {rows : List Str} (h : Fit rows) : D.join (.str em) (.lst ((rows.map fun r => r ++ nl).map D.str)) = .ok (.str (text rows)) := by
  have s := h.sum
  have n := h.num
  refine join_ok ?_
  have e : (S' "").length = 0 := em_len
  rw [e, Nat.mul_zero, Nat.add_zero, List.map_map]
  have : ∀ rs : List Str, (rs.map ((·.length) ∘ fun r => r ++ nl)).sum = (rs.map (·.length)).sum + rs.length := by
    intro rs
    induction rs with
    | nil => rfl
    | cons x rs ih =>
      have q : (x ++ nl).length = x.length + 1 := by rw [strcat_len, nl_len]
      simp only [List.map_cons, List.sum_cons, List.length_cons, ih, Function.comp_apply, q]
      omega
  rw [this]
  omega
/-! entries_of -/
def pt : Option En → Str
  | none => em
  | some e => rowT e
theorem ne_em (x : Str) : D.ne (.str x) (.str (Str.ofString "")) = .ok (.bl (!(x == em))) := Lk.ne_str _ _
theorem all_read {es : List En} (h : ∀ e ∈ es, ok e ∧ nm e) (hf : Fit (es.map rowT)) : m_entries_of (.str (text (es.map rowT))) = .ok (.lst (es.map enc)) := by
  have sp := text_split hf
  have hn := hf.num
  have el : (es.map rowT ++ [em]).map D.str = (es.map some ++ [none]).map fun p => D.str (pt p) := by
    rw [List.map_append, List.map_append, List.map_map, List.map_map]
    rfl
  simp -implicitDefEqProofs only [m_entries_of, bind_ok, txt_str, sp, seq_lst]
  rw [lcSize_ok (by rw [List.length_map, List.length_append]; simp at hn ⊢; omega), bind_ok, el, compX_filter (fun p => D.str (pt p)) Option.isSome (fun p => match p with | some e => enc e | none => .non) (xs := es.map some ++ [none]) (fun p hp => by
    cases p with
    | none => rfl
    | some e =>
      have he : e ∈ es := by
        rcases List.mem_append.mp hp with hp | hp
        · obtain ⟨x, hx, q⟩ := List.mem_map.mp hp
          cases q; exact hx
        · cases List.mem_singleton.mp hp
      obtain ⟨o, n⟩ := h e he
      have ne : D.ne (.str (pt (some e))) (.str (Str.ofString "")) = .ok (.bl true) := by
        rw [ne_em, show (pt (some e) == em) = false from beq_eq_false_iff_ne.mpr (row_ne o n)]
        rfl
      have rd : m_entry_of (.str (pt (some e))) = .ok (enc e) := read_eq o n
      simp -implicitDefEqProofs only [lcF, bind_ok, ne, toB_bl, if_true, F1_eq, rd]
      rfl)]
  have e2 : (es.map some ++ [none]).filter Option.isSome = es.map some := by
    rw [List.filter_append]
    have : (es.map some).filter Option.isSome = es.map some := List.filter_eq_self.mpr fun p hp => by
      obtain ⟨x, _, rfl⟩ := List.mem_map.mp hp
      rfl
    rw [this]
    simp
  rw [e2]
  simp -implicitDefEqProofs only [bind_ok, fin_rt, List.map_map]
  rfl
theorem one_bad {rows : List Str} (hf : Fit rows) {bad : Str} (hb : bad ∈ rows) (ne : bad ≠ em) (he : m_entry_of (.str bad) = .exc 1) (ho : ∀ r ∈ rows, r = bad ∨ ∃ x, m_entry_of (.str r) = .ok x) : m_entries_of (.str (text rows)) = .exc 1 := by
  have sp := text_split hf
  have hn := hf.num
  simp -implicitDefEqProofs only [m_entries_of, bind_ok, txt_str, sp, seq_lst]
  rw [lcSize_ok (by rw [List.length_map, List.length_append]; simp at hn ⊢; omega), bind_ok, compX_exc (k := 1) ?_ ?_]
  · rfl
  · intro x hx
    obtain ⟨r, hr, rfl⟩ := List.mem_map.mp hx
    simp -implicitDefEqProofs only [lcF, bind_ok, ne_em, toB_bl, F1_eq]
    cases q : (r == em) with
    | true => exact .inl ⟨none, rfl⟩
    | false =>
      have hr' : r ∈ rows := by
        rcases List.mem_append.mp hr with z | z
        · exact z
        · rw [List.mem_singleton.mp z, beq_self_eq_true] at q; cases q
      rcases ho r hr' with rfl | ⟨y, e⟩
      · rw [he]; exact .inr rfl
      · rw [e]; exact .inl ⟨some y, rfl⟩
  · refine ⟨.str bad, List.mem_map.mpr ⟨bad, List.mem_append_left _ hb, rfl⟩, ?_⟩
    have q : (bad == em) = false := beq_eq_false_iff_ne.mpr ne
    simp -implicitDefEqProofs only [lcF, bind_ok, ne_em, toB_bl, F1_eq, q, he]
    rfl
theorem refused_one {x : Str} (h : m_entry_of (.str x) = .exc 1) : m__law_refused (.str x) (.bl false) = .ok (.bl true) := by
  simp -implicitDefEqProofs only [m__law_refused, bind_ok, truth_bl, Bool.false_eq_true, if_false, F1_eq, h]
  rfl
theorem refused_all {x : Str} (h : m_entries_of (.str x) = .exc 1) : m__law_refused (.str x) (.bl true) = .ok (.bl true) := by
  simp -implicitDefEqProofs only [m__law_refused, bind_ok, truth_bl, if_true, F1_eq, h]
  rfl
theorem none_row {x : D} (h : none_ x) : ∃ bad : Str, D.join (.str (S' " ")) x = .ok (.str bad) ∧ m_entry_of (.str bad) = .exc 1 ∧ bad ≠ em ∧ 10 ∉ cl bad ∧ bad.length ≤ 19000 := by
  obtain ⟨w, r, rfl, hl, hf, ho, hz⟩ := h
  have sm := sum_le (w :: r) (fun x hx => (hf x hx).2)
  have jl := tjoin_len (S' " ") (w :: r)
  rw [sp_len] at jl
  have lc : (w :: r).length = r.length + 1 := rfl
  refine ⟨Txt.join (S' " ") (w :: r), join_ok (by rw [sp_len]; omega), entry_bad hl hf ho, fun z => ?_, fun z => ?_, by omega⟩
  · cases r with
    | nil => exact hz ⟨z, rfl⟩
    | cons a r =>
      have m : 32 ∈ cl (Txt.join (S' " ") (w :: a :: r)) := by
        rw [tjoin_eq]
        show 32 ∈ cl (w ++ S' " " ++ Str.join (S' " ") (a :: r))
        rw [cl_cat, cl_cat, sp_cl]
        simp
      rw [z] at m
      cases m
  · rw [tjoin_eq] at z
    rcases mem_join z with z | ⟨x, hx, z⟩
    · rw [sp_cl] at z; simp at z
    · exact (hf x hx).1.2 z
end Lw
namespace Lw
open PySem Lk
theorem insR_ok {xs : List D} {p : Nat} {x : D} (h : p ≤ 100) (h2 : xs.length < 100000) : insR xs (.int (p : Int)) x = .ok (xs.take p ++ [x] ++ xs.drop p) := by
  have e : (2 : Int) ^ 62 = 4611686018427387904 := by simp
  have q : (p : Int) < 2 ^ 62 := by rw [e]; omega
  unfold insR
  simp only []
  rw [if_pos ⟨⟨by omega, q⟩, h2⟩]
  rfl
theorem law_true (ns : List Int) (h : ns.length ≤ 63) : F1 m_law [.lst (ns.map D.int)] = .ok (.bl true) := by
  obtain ⟨f, hf⟩ : ∃ f : Int → En, ∀ c, ok (f c) ∧ nm (f c) ∧ m__law_entry (.int c) = .ok (enc (f c)) := ⟨fun c => Classical.choose (entry_eq c), fun c => Classical.choose_spec (entry_eq c)⟩
  obtain ⟨a, B1⟩ : ∃ a : Int, (if decide ((0 : Int) < (ns.length : Int)) = true then D.item (.lst (ns.map D.int)) (.int 0) >>= fun v => Res.ok (Out.nx v) else Res.ok (Out.nx (D.int 0)) : Res (Out D Empty D)) = .ok (.nx (.int a)) := by
    cases ns with
    | nil => exact ⟨0, rfl⟩
    | cons x r =>
      have it : D.item (.lst ((x :: r).map D.int)) (.int 0) = .ok (.int x) := item_lst (k := 0) (by simp)
      exact ⟨x, by rw [decide_eq_true (by rw [List.length_cons]; omega), if_pos rfl, it]; rfl⟩
  obtain ⟨b, B2⟩ : ∃ b : Int, (if decide ((1 : Int) < (ns.length : Int)) = true then D.item (.lst (ns.map D.int)) (.int 1) >>= fun v => Res.ok (Out.nx v) else Res.ok (Out.nx (D.int 0)) : Res (Out D Empty D)) = .ok (.nx (.int b)) := by
    match ns with
    | [] => exact ⟨0, rfl⟩
    | [x] => exact ⟨0, rfl⟩
    | x :: y :: r =>
      have it : D.item (.lst ((x :: y :: r).map D.int)) (.int 1) = .ok (.int y) := item_lst (k := 1) (by simp)
      exact ⟨y, by rw [decide_eq_true (by rw [List.length_cons, List.length_cons]; omega), if_pos rfl, it]; rfl⟩
  obtain ⟨oe, ne, ee⟩ := hf a
  generalize f a = e at oe ne ee
  have we := words_eq e oe
  have tb := tl_bound oe ne
  have wl : (words e).length = (tlw e).length + 1 := by rw [words_cons]; rfl
  have f17 : D.fdiv (.int b) (.int 17) = .ok (.int (b / 17)) := fd (by decide) (by decide)
  have f34 : D.fdiv (.int b) (.int 34) = .ok (.int (b / 34)) := fd (by decide) (by decide)
  have m17 : D.mod (.int b) (.int 17) = .ok (.int (b % 17)) := mod_int (by decide)
  have ln : D.len [.lst ((words e).map D.str)] = .ok (.int (((tlw e).length + 1 : Nat) : Int)) := by rw [len_lst, List.length_map, wl]
  have su : D.sub (.int (((tlw e).length + 1 : Nat) : Int)) (.int 1) = .ok (.int ((tlw e).length : Int)) := by
    rw [Lk.sub_int]
    refine congrArg (fun z => Res.ok (D.int z)) ?_
    omega
  obtain ⟨m, hm⟩ : ∃ m, m = (tlw e).length := ⟨_, rfl⟩
  rw [← hm] at su tb ln
  have mm : D.mod (.int (b / 17)) (.int (m : Int)) = .ok (.int (b / 17 % (m : Int))) := mod_int (by omega)
  obtain ⟨k, hk⟩ : ∃ k : Nat, b / 17 % (m : Int) = (k : Int) := ⟨(b / 17 % (m : Int)).toNat, by
    have := Int.emod_nonneg (b / 17) (show (m : Int) ≠ 0 by omega)
    omega⟩
  have hk2 : k < m := by
    have := Int.emod_lt_of_pos (b / 17) (show (0 : Int) < (m : Int) by omega)
    omega
  rw [hk] at mm
  have ad : D.add (.int 1) (.int (k : Int)) = .ok (.int ((k + 1 : Nat) : Int)) := by
    rw [Lk.add_int]
    refine congrArg (fun z => Res.ok (D.int z)) ?_
    omega
  obtain ⟨bx, bw, bn⟩ := bad_eq oe ne (k := k) (by omega) (b % 17) (Int.emod_nonneg _ (by decide)) (Int.emod_lt_of_pos _ (by decide))
  obtain ⟨bad, bj, be, bne, b10, bl⟩ := none_row bn
  -- the good rows
  have sl : D.slice (.lst (ns.map D.int)) (some 2) none = .ok (.lst ((ns.drop 2).map D.int)) := sliceI_from (k := 2)
  obtain ⟨es, hes⟩ : ∃ es, es = (ns.drop 2).map f := ⟨_, rfl⟩
  have el : es.length ≤ 63 := by rw [hes, List.length_map, List.length_drop]; omega
  have ho : ∀ x ∈ es, ok x ∧ nm x := by
    intro x hx
    rw [hes] at hx
    obtain ⟨c, _, rfl⟩ := List.mem_map.mp hx
    exact ⟨(hf c).1, (hf c).2.1⟩
  have szA : lcSize ((ns.drop 2).map D.int) = .ok ((ns.drop 2).map D.int) := lcSize_ok (by rw [List.length_map, List.length_drop]; omega)
  have cmA : ∀ F : D → Res (Option D), (∀ c : Int, ∀ x y z : D, m__law_entry (.int c) = .ok x → m__law_words x = .ok y → D.join (.str (Str.ofString " ")) y = .ok z → F (.int c) = Res.ok (some z)) → compR F ((ns.drop 2).map D.int) = .ok ((es.map rowT).map D.str) := fun F hF => by
    rw [compR_map D.int (fun c => D.str (rowT (f c))) (xs := ns.drop 2) (fun c _ => hF c _ _ _ (hf c).2.2 (words_eq _ (hf c).1) (join_row _ (hf c).1)), hes, List.map_map, List.map_map]
    rfl
  have cmB : ∀ (rows : List Str), (∀ r ∈ rows, r.length ≤ 20000) → ∀ F : D → Res (Option D), (∀ c y : D, D.add c (.str (Str.ofString "\n")) = .ok y → F c = Res.ok (some y)) → compR F (rows.map D.str) = .ok ((rows.map fun r => r ++ nl).map D.str) := fun rows hr F hF => by
    rw [compR_map D.str (fun r => D.str (r ++ nl)) (xs := rows) (fun r q => hF _ _ (add_str (by have := hr r q; show _ + (S' "\n").length ≤ _; rw [nl_len]; omega))), List.map_map]
    rfl
  have rl : ∀ r ∈ es.map rowT, r.length ≤ 500 := fun r hr => by
    obtain ⟨x, hx, rfl⟩ := List.mem_map.mp hr
    exact row_len x (ho x hx).1
  have r10 : ∀ r ∈ es.map rowT, 10 ∉ cl r := fun r hr => by
    obtain ⟨x, hx, rfl⟩ := List.mem_map.mp hr
    exact row_nl (ho x hx).1 (ho x hx).2
  have rs := sum_le (es.map rowT) rl
  obtain ⟨rows, hrows⟩ : ∃ rows, rows = es.map rowT := ⟨_, rfl⟩
  have rn : rows.length = es.length := by rw [hrows, List.length_map]
  have fitA : Fit rows := by
    rw [hrows] at rn ⊢
    exact ⟨r10, by omega, by omega⟩
  have good := all_read ho (by rw [← hrows]; exact fitA)
  rw [← hrows] at good cmA rl r10 rs
  have lnR : (rows.map D.str).length = es.length := by rw [List.length_map, rn]
  obtain ⟨q, hq⟩ : ∃ q : Nat, b / 34 % ((es.length + 1 : Nat) : Int) = (q : Int) := ⟨(b / 34 % ((es.length + 1 : Nat) : Int)).toNat, by
    have := Int.emod_nonneg (b / 34) (show ((es.length + 1 : Nat) : Int) ≠ 0 by omega)
    omega⟩
  have hq2 : q < es.length + 1 := by
    have := Int.emod_lt_of_pos (b / 34) (show (0 : Int) < ((es.length + 1 : Nat) : Int) by omega)
    omega
  have a1 : D.add (.int (es.length : Int)) (.int 1) = .ok (.int ((es.length + 1 : Nat) : Int)) := by
    rw [Lk.add_int]
    refine congrArg (fun z => Res.ok (D.int z)) ?_
    omega
  have mq : D.mod (.int (b / 34)) (.int ((es.length + 1 : Nat) : Int)) = .ok (.int (q : Int)) := by rw [mod_int (by omega), hq]
  have ins : insR (rows.map D.str) (.int (q : Int)) (.str bad) = .ok ((rows.take q ++ [bad] ++ rows.drop q).map D.str) := by
    rw [insR_ok (by omega) (by rw [lnR]; omega)]
    simp [List.map_take, List.map_drop]
  obtain ⟨all, hall⟩ : ∃ all, all = rows.take q ++ [bad] ++ rows.drop q := ⟨_, rfl⟩
  have mem : ∀ r ∈ all, r = bad ∨ r ∈ rows := by
    intro r hr
    rw [hall] at hr
    rcases List.mem_append.mp hr with hr | hr
    · rcases List.mem_append.mp hr with hr | hr
      · exact .inr (List.mem_of_mem_take hr)
      · exact .inl (List.mem_singleton.mp hr)
    · exact .inr (List.mem_of_mem_drop hr)
  have alln : all.length = es.length + 1 := by
    rw [hall]
    simp
    omega
  have alls : (all.map (·.length)).sum ≤ 90000 := by
    have e1 : (rows.map (·.length)).sum = ((rows.take q).map (·.length)).sum + ((rows.drop q).map (·.length)).sum := by
      rw [← List.sum_append, ← List.map_append, List.take_append_drop]
    rw [hall]
    simp only [List.map_append, List.sum_append, List.map_cons, List.map_nil, List.sum_cons, List.sum_nil]
    omega
  have fitB : Fit all := ⟨fun r hr => (mem r hr).elim (fun z => by rw [z]; exact b10) fun z => r10 r z, by omega, alls⟩
  have ob := one_bad fitB (bad := bad) (by rw [hall]; simp) bne be fun r hr => (mem r hr).imp id fun z => by
    rw [hrows] at z
    obtain ⟨x, hx, rfl⟩ := List.mem_map.mp z
    exact ⟨_, read_eq (ho x hx).1 (ho x hx).2⟩
  have allr : ∀ r ∈ all, r.length ≤ 20000 := fun r hr => (mem r hr).elim (fun z => by rw [z]; omega) fun z => Nat.le_trans (rl r z) (by decide)
  have e0 : m_entry_of (.str em) = .exc 1 := by
    have z : Txt.join (S' " ") (em :: []) = em := rfl
    rw [← z]
    refine entry_bad (by simp) (fun x hx => ?_) (.inl fun s => six_em (shape_six s))
    rw [List.mem_singleton.mp hx]
    exact ⟨consts.2.1, by decide +kernel⟩
  have lN : D.len [.lst (ns.map D.int)] = .ok (.int (ns.length : Int)) := by rw [len_lst, List.length_map]
  have lE : D.len [.lst (es.map enc)] = .ok (.int (es.length : Int)) := by rw [len_lst, List.length_map]
  have iL : D.isT "list" (.lst (es.map enc)) = .ok (.bl true) := rfl
  have fr : ∀ x : Str, D.free (.str x) = .ok (.str x) := fun _ => rfl
  have szB : ∀ rs : List Str, rs.length ≤ 100 → lcSize (rs.map D.str) = .ok (rs.map D.str) := fun rs hr => lcSize_ok (by rw [List.length_map]; omega)
  have nE : D.ne (.int (es.length : Int)) (.int (es.length : Int)) = .ok (.bl false) := by rw [Lk.ne_int, beq_self_eq_true]; rfl
  simp -implicitDefEqProofs only [F1_eq, m_law, bind_ok, lN, Lk.gt_int', toB_bl]
  rw [B1]
  simp -implicitDefEqProofs only [bind_ok, then_nx]
  rw [B2]
  simp -implicitDefEqProofs only [bind_ok, then_nx, F1_eq, ee, we, txt_str, m17, f17, ln, su, mm, ad, F3_eq, bw, bj, toI_int, sl, seq_lst, szA]
  rw [cmA _ (fun c x y z h1 h2 h3 => by simp -implicitDefEqProofs only [lcF_yes, bind_ok, txt_str, F1_eq, h1, h2, h3])]
  simp -implicitDefEqProofs only [bind_ok, txt_str, seq_lst, szB rows (by omega)]
  rw [cmB rows (fun r hr => Nat.le_trans (rl r hr) (by decide)) _ (fun c y h1 => by simp -implicitDefEqProofs only [lcF_yes, bind_ok, h1])]
  simp -implicitDefEqProofs only [bind_ok, text_join fitA, fr, F1_eq, good, iL, truth_bl, Bool.not_true, Bool.false_eq_true, if_false, lE, lnR, nE, toB_bl, f34, a1, mq, ins]
  rw [← hall]
  simp -implicitDefEqProofs only [bind_ok, F2_eq, refused_one e0, refused_one be, truth_bl, Bool.not_true, Bool.false_eq_true, if_false, txt_str, seq_lst, szB all (by omega)]
  rw [cmB all allr _ (fun c y h1 => by simp -implicitDefEqProofs only [lcF_yes, bind_ok, h1])]
  simp -implicitDefEqProofs only [bind_ok, text_join fitB, refused_all ob, fin_rt, F2_eq]
end Lw
open PySem PySem.W PySem.Calls PyProof.Rows
set_option maxRecDepth 100000 in
set_option maxHeartbeats 0 in
theorem PySem.Challenge.cw_lockhouse_k73_no_entries_refused_holds : PySem.Challenge.rw_lockhouse_k73_no_entries_refused.Holds := by
  w_on; o_law
  refine HandSHeadRun.head_any (r := Lw.R0) (q := view Lw.R0.prog [28]) (H := Lw.hk) (ob := Lw.ob) (M := 7900) (loose := Lw.names) (d := HandSHeadRun.topDef Lw.R0.prog 28) (kwd := []) Lw.ob_eq
    (by kernel_rfl) (fun s => by kernel_rfl) Lw.run (by kernel_rfl) (by kernel_rfl) (by kernel_rfl) (by rfl) (by first | assumption | decide +kernel) (by decide +kernel) ⟨rfl, rfl, rfl, rfl, rfl, by decide +kernel⟩ ?hw ?hc
  case hw => w_witness2
  case hc =>
    refine Lk.law_end (l := PySem.Challenge.rw_lockhouse_k73_no_entries_refused) (n := 63) (k := 8) (F := Lk.F1 Lw.m_law) rfl (by decide) (by kernel_rfl) ⟨rfl, by decide, by decide⟩ Lw.law_true ?u
    intro w mg fa h Y G hn
    obtain ⟨K, KX, c⟩ := Y
    have en : (HandSHeadRun.topDef Lw.R0.prog 28).name = ("law" : PySem.Str) := by kernel_rfl
    rw [en] at hn
    exact ⟨K, Lw.caOf K, KX, Lw.facts KX G hn c⟩
