import PyProof.Rows.All
import Wide.All
import OpenK.AllK
import Wide.FinOn
import HandS.ForMost
import HandS.ForExc
import HandS.IsInst
import HandS.Wide
import HandS.Strs
import HandS.More
import HandS.TupAny
import HandS.TupLe
import HandS.TryOnly
import HandS.MakeKw
import KE.KTupSum
import HandS.RaiseMore
import HandS.FStr
import HandS.Text
import HandS.Defaults
import KE.KStateDown
import HandS.Head0
import HandS.Head1
import HandS.Head2
import HandS.HeadEnd
import HandS.HeadHook1
import HandS.HeadHook2
import HandS.ExcIs
import HandS.ClsMeth
import PySem.Challenge.RW_lockhouse_k10_refusals_apart
import HandS.Nested
import KE.KeyNested
import KE.KDictKeyed
import KE.KDictDisplayH
import HandS.TupLen
import HandS.Deep
import KE.KxIndex
import HandS.Dict
import KE.GoesComp
import KE.GoesRaise
import HandS.ExcCtx
import HandS.SuiteRaise
import HandS.HotCalls
import HandS.ExcValue
import HandS.HeadHook4
import HandS.EndTab
import HandS.HeadWalk
import HandS.Style
import KE.KDictList
import KE.KDictCopyH
set_option Elab.async false
set_option linter.all false
set_option maxRecDepth 100000
set_option maxHeartbeats 4000000
namespace Lk
open PySem
def NM : Nat → Nat → Str := fun _ _ => ""
end Lk
namespace Lk
open PySem PySem.Spec PyProof.Rows L2
inductive Res (α : Type) where
  | ok (a : α)
  | exc (c : Nat)
  | bug
def Res.bind {α β : Type} : Res α → (α → Res β) → Res β
  | .ok a, f => f a
  | .exc c, _ => .exc c
  | .bug, _ => .bug
instance : Monad Res where
  pure := Res.ok
  bind := Res.bind
@[simp] theorem a0o {α β : Type} (a : α) (f : α → Res β) : (Res.ok a >>= f) = f a := by
  have h : ∀ x : Res β, x = x := fun _ => Eq.refl _
  exact h (f a)
@[simp] theorem a7s {α β : Type} (c : Nat) (f : α → Res β) : ((Res.exc c : Res α) >>= f) = .exc c := by
  have h : ∀ x : Res β, x = x := fun _ => Eq.refl _
  exact h (.exc c)
@[simp] theorem a7t {α β : Type} (f : α → Res β) : ((Res.bug : Res α) >>= f) = .bug := by
  have h : ∀ x : Res β, x = x := fun _ => Eq.refl _
  exact h .bug
@[simp] theorem a8s {α : Type} (a : α) : (pure a : Res α) = .ok a := rfl
structure NDf where
  name : Str
  qual : Str
  params : Arguments
  body : List Stmt
  scope : Scope
  ps : List Str
  fr : List Str
structure CA where
  cls : Nat → Addr
  w : World
  tabs : List Addr
  nf : Nat → Option NDf
instance : CoeFun CA (fun _ => Nat → Addr) := ⟨CA.cls⟩
def CellO (o : Obj) : HO := .frz o (.ext fun _ => True)
def NDf.at_ (n : NDf) (cl : List (Str × Addr)) (c : Addr) : NdefX.NF := ⟨n.name, n.qual, n.params, n.body, n.scope, cl, c⟩
inductive CellsG (G : Hp) (cl : List (Str × Addr)) : List Str → List V → Prop
  | nil : CellsG G cl [] []
  | cons {x : Str} {xs : List Str} {c : Addr} {o : Obj} {v : V} {u : Value} {vs : List V} : cl.lookup x = some c → G c = some (CellO o) → o.data = .cell (some u) → RelV v u → CellsG G cl xs vs → CellsG G cl (x :: xs) (v :: vs)
def DkEnt (w : World) (x : NestedKey × Value × Value) : DictEntry := ⟨x.1.hash w, x.2.1, x.2.2⟩
def DkAt (w : World) (ep : Nat) (a : Addr) (kvs : List (NestedKey × V × V)) : Heap → Prop := fun h => ∃ (o : Obj) (es : Array DictEntry) (xs : List (NestedKey × Value × Value)), h.get? a = some o ∧ o.ExactDict ∧ o.data = .dict es ep ∧ es.toList = xs.map (DkEnt w) ∧ Paired (fun (p : NestedKey × V × V) (q : NestedKey × Value × Value) => p.1 = q.1 ∧ RelV p.2.1 q.2.1 ∧ RelV p.2.2 q.2.2) kvs xs
def DkOk (a : Addr) (kvs : List (NestedKey × V × V)) : Prop := kvs.length ≤ sizeLine ∧ (a == sysModules) = false ∧ (kvs.map (·.1)).Nodup
abbrev DkO (w : World) (ep : Nat) (a : Addr) (kvs : List (NestedKey × V × V)) : HO := .ext (DkAt w ep a kvs)
def ExAt (cls : Value) (a : Addr) : Heap → Prop := fun h => ∃ oe, h.get? a = some oe ∧ Zc cls none oe ∧ ∃ vs, oe.data = .fields vs
inductive D where
  | non
  | bl (b : Bool)
  | int (i : Int)
  | str (x : Str)
  | lst (xs : List D)
  | tup (xs : List D)
  | ins (c : Nat) (fs : List (Str × D))
  | dic (fs : List (Str × D))
  | kd (fs : List (D × D))
  | fn (n : Nat) (ws : List D)
  | any
def encC (cl : List (Str × Addr)) : List D := cl.map fun p => .tup [.str p.1, .int (p.2 : Nat)]
theorem a14 : ∀ {a b : List (Str × Addr)}, encC a = encC b → a = b
  | [], [], _ => rfl
  | [], _ :: _, h => by cases h
  | _ :: _, [], h => by cases h
  | (x, i) :: r, (y, j) :: q, h => by
    simp only [encC, List.map_cons, List.cons.injEq, D.tup.injEq, D.str.injEq, D.int.injEq, and_true] at h
    obtain ⟨⟨h1, h2⟩, h3⟩ := h
    have h2' : i = j := by exact Int.ofNat.inj h2
    rw [h1, h2', a14 h3]
mutual
def D.keyOf : D → Option NestedKey
  | .non => some .none
  | .int i => some (.num i)
  | .str x => some (.text x)
  | .tup xs => (D.keysOf xs).map .tup
  | _ => none
def D.keysOf : List D → Option (List NestedKey)
  | [] => some []
  | x :: xs => (D.keyOf x).bind fun k => (D.keysOf xs).map fun ks => k :: ks
end
def D.key (d : D) : Option NestedKey := (D.keyOf d).bind fun k => if k.depth ≤ 8 then some k else none
mutual
inductive R (K : PySem.W.Frag) (ca : CA) (G : Hp) : V → D → Prop
  | any {v : V} : R K ca G v .any
  | non : R K ca G .non .non
  | bl (b : Bool) : R K ca G (.bl b) (.bl b)
  | int (i : Int) : R K ca G (.int i) (.int i)
  | str (x : Str) : R K ca G (.str x) (.str x)
  | lst {a : Addr} {vs : List V} {ds : List D} : SqL K G a vs → RL K ca G vs ds → R K ca G (.ref a) (.lst ds)
  | tup {a : Addr} {vs : List V} {ds : List D} : SqT K G a vs → RL K ca G vs ds → R K ca G (.ref a) (.tup ds)
  | ins {a dx : Addr} {c : Nat} {fvs : List (Str × V)} {fs : List (Str × D)} : G a = some (.ins (ca c) dx fvs) → RF K ca G fvs fs → R K ca G (.ref a) (.ins c fs)
  | dic {a : Addr} {fvs : List (Str × V)} {fs : List (Str × D)} : G a = some (.dK (fvs.map fun p => (Sum.inr p.1, p.2))) → RF K ca G fvs fs → R K ca G (.ref a) (.dic fs)
  | kd {a : Addr} {kvs : List (NestedKey × V × V)} {fs : List (D × D)} {ep : Nat} : G a = some (DkO ca.w ep a kvs) → DkOk a kvs → RK K ca G kvs fs → R K ca G (.ref a) (.kd fs)
  | fn {f c : Addr} {n : Nat} {nd : NDf} {cl : List (Str × Addr)} {vs : List V} {ws : List D} : (∀ r, ws ≠ .any :: r) → ca.nf n = some nd → G f = some (NdefX.FnO f (nd.at_ cl c)) → G c = some (LamX.CodeO c nd.qual) → (∀ y d, cl.lookup y = some d → ∃ o v, G d = some (CellO o) ∧ o.data = .cell v) →
      (∀ x y d, cl.lookup x = some d → cl.lookup y = some d → x = y) → CellsG G cl nd.fr vs → RL K ca G vs ws → R K ca G (.ref f) (.fn n ws)
  | fnl {f c : Addr} {n : Nat} {nd : NDf} {cl : List (Str × Addr)} : ca.nf n = some nd → G f = some (NdefX.FnO f (nd.at_ cl c)) → G c = some (LamX.CodeO c nd.qual) → R K ca G (.ref f) (.fn n (.any :: encC cl))
  | exn {a : Addr} {j : Nat} {φ : Heap → Prop} : G a = some (.ext φ) → (∀ h, φ h → ExAt (.ref (ca j)) a h) → R K ca G (.ref a) (.fn j [.any, .non])
inductive RL (K : PySem.W.Frag) (ca : CA) (G : Hp) : List V → List D → Prop
  | nil : RL K ca G [] []
  | cons {v : V} {vs : List V} {d : D} {ds : List D} : R K ca G v d → RL K ca G vs ds → RL K ca G (v :: vs) (d :: ds)
inductive RF (K : PySem.W.Frag) (ca : CA) (G : Hp) : List (Str × V) → List (Str × D) → Prop
  | nil : RF K ca G [] []
  | cons {n : Str} {v : V} {vs : List (Str × V)} {d : D} {ds : List (Str × D)} : R K ca G v d → RF K ca G vs ds → RF K ca G ((n, v) :: vs) ((n, d) :: ds)
inductive RK (K : PySem.W.Frag) (ca : CA) (G : Hp) : List (NestedKey × V × V) → List (D × D) → Prop
  | nil : RK K ca G [] []
  | cons {k : NestedKey} {kv v : V} {vs : List (NestedKey × V × V)} {kd d : D} {ds : List (D × D)} : D.key kd = some k → R K ca G kv kd → R K ca G v d → RK K ca G vs ds → RK K ca G ((k, kv, v) :: vs) ((kd, d) :: ds)
end
theorem Same.sqL {K : PySem.W.Frag} {H H' : Hp} {a : Addr} {xs : List V} (e : Same H H') (h : SqL K H a xs) : SqL K H' a xs := Same.seq e h
theorem Same.sqT {K : PySem.W.Frag} {H H' : Hp} {a : Addr} {xs : List V} (e : Same H H') (h : SqT K H a xs) : SqT K H' a xs := by
  rcases h with (h | ⟨o, h⟩) | h
  · exact .inl (.inl (e _ _ h))
  · exact .inl (.inr ⟨o, e _ _ h⟩)
  · exact .inr h
theorem Same.rd {H H' : Hp} {a : Addr} {u : HO} (e : Same H H') (h : Rd H a u) : Rd H' a u := by
  rcases h with h | ⟨o, h⟩
  · exact .inl (e _ _ h)
  · exact .inr ⟨o, e _ _ h⟩
theorem CellsG.mono {G G' : Hp} (e : Same G G') {cl : List (Str × Addr)} {xs : List Str} {vs : List V} (h : CellsG G cl xs vs) : CellsG G' cl xs vs := by
  induction h with
  | nil => exact .nil
  | cons h1 h2 h3 h4 _ ih => exact .cons h1 (e _ _ h2) h3 h4 ih
section
variable {K : PySem.W.Frag} {ca : CA} {G G' H H' : Hp}
mutual
theorem R.mono (e : Same G G') : ∀ {d : D} {v : V}, R K ca G v d → R K ca G' v d
  | .any, _, h => .any
  | .non, _, h => by cases h; exact .non
  | .bl _, _, h => by cases h; exact .bl _
  | .int _, _, h => by cases h; exact .int _
  | .str _, _, h => by cases h; exact .str _
  | .lst ds, _, h => by cases h with | lst h1 h2 => exact .lst (Same.sqL e h1) (RL.mono e h2)
  | .tup ds, _, h => by cases h with | tup h1 h2 => exact .tup (Same.sqT e h1) (RL.mono e h2)
  | .ins c fs, _, h => by cases h with | ins h1 h2 => exact .ins (e _ _ h1) (RF.mono e h2)
  | .dic fs, _, h => by cases h with | dic h1 h2 => exact .dic (e _ _ h1) (RF.mono e h2)
  | .kd fs, _, h => by cases h with | kd h1 h0 h2 => exact .kd (e _ _ h1) h0 (RK.mono e h2)
  | .fn n ws, _, h => by
    cases h with
    | fn h0 h1 h2 h3 h4 h5 h6 h7 => exact .fn h0 h1 (e _ _ h2) (e _ _ h3) (fun y d q => let ⟨o, v, z1, z2⟩ := h4 y d q; ⟨o, v, e _ _ z1, z2⟩) h5 (h6.mono e) (RL.mono e h7)
    | fnl h1 h2 h3 => exact .fnl h1 (e _ _ h2) (e _ _ h3)
    | exn h1 h2 => exact .exn (e _ _ h1) h2
theorem RL.mono (e : Same G G') : ∀ {ds : List D} {vs : List V}, RL K ca G vs ds → RL K ca G' vs ds
  | [], _, h => by cases h; exact .nil
  | d :: ds, _, h => by cases h with | cons h1 h2 => exact .cons (R.mono e h1) (RL.mono e h2)
theorem RF.mono (e : Same G G') : ∀ {fs : List (Str × D)} {vs : List (Str × V)}, RF K ca G vs fs → RF K ca G' vs fs
  | [], _, h => by cases h; exact .nil
  | (n, d) :: ds, _, h => by cases h with | cons h1 h2 => exact .cons (R.mono e h1) (RF.mono e h2)
theorem RK.mono (e : Same G G') : ∀ {ds : List (D × D)} {vs : List (NestedKey × V × V)}, RK K ca G vs ds → RK K ca G' vs ds
  | [], _, h => by cases h; exact .nil
  | (n, d) :: ds, _, h => by cases h with | cons h0 h1 h2 h3 => exact .cons h0 (R.mono e h1) (R.mono e h2) (RK.mono e h3)
end
theorem RL.length : ∀ {ds : List D} {vs : List V}, RL K ca G vs ds → vs.length = ds.length
  | [], _, h => by cases h; rfl
  | d :: ds, _, h => by cases h with | cons h1 h2 => simp [RL.length h2]
theorem RL.get : ∀ {ds : List D} {vs : List V} {i : Nat} {d : D}, RL K ca G vs ds → ds[i]? = some d → ∃ v, vs[i]? = some v ∧ R K ca G v d
  | [], _, _, _, _, e => by simp at e
  | d0 :: ds, _, 0, d, h, e => by
    cases h with
    | cons h1 h2 =>
      have e' : d0 = d := by simpa using e
      subst e'
      exact ⟨_, rfl, h1⟩
  | d0 :: ds, _, i + 1, d, h, e => by
    cases h with
    | cons h1 h2 =>
      obtain ⟨v, q1, q2⟩ := RL.get (i := i) h2 (by simpa using e)
      exact ⟨v, by simpa using q1, q2⟩
theorem RL.get' : ∀ {ds : List D} {vs : List V} {i : Nat} {v : V}, RL K ca G vs ds → vs[i]? = some v → ∃ d, ds[i]? = some d ∧ R K ca G v d
  | [], _, _, _, h, e => by cases h; simp at e
  | d0 :: ds, _, 0, v, h, e => by
    cases h with
    | cons h1 h2 =>
      have e' := Option.some.inj (by simpa using e)
      subst e'
      exact ⟨_, rfl, h1⟩
  | d0 :: ds, _, i + 1, v, h, e => by
    cases h with
    | cons h1 h2 =>
      obtain ⟨v, q1, q2⟩ := RL.get' (i := i) h2 (by simpa using e)
      exact ⟨v, by simpa using q1, q2⟩
theorem RL.append : ∀ {ds es : List D} {vs us : List V}, RL K ca G vs ds → RL K ca G us es → RL K ca G (vs ++ us) (ds ++ es)
  | [], _, _, _, h, q => by cases h; exact q
  | d :: ds, _, _, _, h, q => by cases h with | cons h1 h2 => exact .cons h1 (RL.append h2 q)
theorem RL.set {d : D} {v : V} (r : R K ca G v d) : ∀ {ds : List D} {vs : List V} (i : Nat), RL K ca G vs ds → RL K ca G (vs.set i v) (ds.set i d)
  | [], _, _, h => by cases h; exact .nil
  | d0 :: ds, _, 0, h => by cases h with | cons h1 h2 => exact .cons r h2
  | d0 :: ds, _, i + 1, h => by cases h with | cons h1 h2 => exact .cons h1 (RL.set r i h2)
theorem RL.take : ∀ {ds : List D} {vs : List V} (i : Nat), RL K ca G vs ds → RL K ca G (vs.take i) (ds.take i)
  | _, _, 0, h => .nil
  | [], _, i + 1, h => by cases h; exact .nil
  | d0 :: ds, _, i + 1, h => by cases h with | cons h1 h2 => exact .cons h1 (RL.take i h2)
theorem RL.drop : ∀ {ds : List D} {vs : List V} (i : Nat), RL K ca G vs ds → RL K ca G (vs.drop i) (ds.drop i)
  | _, _, 0, h => h
  | [], _, i + 1, h => by cases h; exact .nil
  | d0 :: ds, _, i + 1, h => by cases h with | cons h1 h2 => exact RL.drop i h2
theorem RL.ints : ∀ {ns : List Int}, RL K ca G (ns.map V.int) (ns.map D.int)
  | [] => .nil
  | n :: ns => .cons (.int n) RL.ints
end
inductive O where
  | d (x : D)
  | ol (r : Option V) (xs : List D)
  | oL (xs : List O)
  | ot (xs : List O)
  | oi (c : Nat) (fs : List (Str × O))
  | od (fs : List (Str × D))
  | kd (fs : List (D × O))
  | pin (v : V) (o : O)
  | raw (v : V)
abbrev AS := Addr → Prop
def none_ : AS := fun _ => False
mutual
inductive Ow (K : PySem.W.Frag) (ca : CA) (G H : Hp) : V → O → AS → Prop
  | d {v : V} {x : D} {F : AS} : R K ca G v x → Ow K ca G H v (.d x) F
  | ol {p : Addr} {r : Option V} {vs : List V} {xs : List D} {F : AS} : H p = some (.lst vs) → RL K ca G vs xs → F p → (∀ w, r = some w → w = .ref p) → Ow K ca G H (.ref p) (.ol r xs) F
  | oL {p : Addr} {vs : List V} {xs : List O} {F F' : AS} : H p = some (.lst vs) → F p → OwL K ca G H vs xs F' → ¬ F' p → (∀ a, F' a → F a) → Ow K ca G H (.ref p) (.oL xs) F
  | ot {p : Addr} {vs : List V} {xs : List O} {F F' : AS} : H p = some (.tup vs) → F p → OwL K ca G H vs xs F' → ¬ F' p → (∀ a, F' a → F a) → Ow K ca G H (.ref p) (.ot xs) F
  | oi {p dx : Addr} {c : Nat} {fvs : List (Str × V)} {fs : List (Str × O)} {F F' : AS} : H p = some (.ins (ca c) dx fvs) → F p → OwF K ca G H fvs fs F' → ¬ F' p → (∀ a, F' a → F a) → Ow K ca G H (.ref p) (.oi c fs) F
  | od {p : Addr} {fvs : List (Str × V)} {fs : List (Str × D)} {F : AS} : H p = some (.dK (fvs.map fun p => (Sum.inr p.1, p.2))) → RF K ca G fvs fs → F p → Ow K ca G H (.ref p) (.od fs) F
  | kd {p : Addr} {kvs : List (NestedKey × V × V)} {fs : List (D × O)} {F F' : AS} {ep : Nat} : H p = some (DkO ca.w ep p kvs) → DkOk p kvs → F p → OwK K ca G H kvs fs F' → ¬ F' p → (∀ a, F' a → F a) → Ow K ca G H (.ref p) (.kd fs) F
  | pin {v : V} {o : O} {F : AS} : Ow K ca G H v o F → Ow K ca G H v (.pin v o) F
  | raw {v : V} {F : AS} : Ow K ca G H v (.raw v) F
inductive OwL (K : PySem.W.Frag) (ca : CA) (G H : Hp) : List V → List O → AS → Prop
  | nil {F : AS} : OwL K ca G H [] [] F
  | cons {v : V} {vs : List V} {o : O} {os : List O} {F F1 F2 : AS} : Ow K ca G H v o F1 → OwL K ca G H vs os F2 → (∀ a, F1 a → F2 a → False) → (∀ a, F1 a → F a) → (∀ a, F2 a → F a) → OwL K ca G H (v :: vs) (o :: os) F
inductive OwF (K : PySem.W.Frag) (ca : CA) (G H : Hp) : List (Str × V) → List (Str × O) → AS → Prop
  | nil {F : AS} : OwF K ca G H [] [] F
  | cons {n : Str} {v : V} {vs : List (Str × V)} {o : O} {os : List (Str × O)} {F F1 F2 : AS} : Ow K ca G H v o F1 → OwF K ca G H vs os F2 → (∀ a, F1 a → F2 a → False) → (∀ a, F1 a → F a) → (∀ a, F2 a → F a) → OwF K ca G H ((n, v) :: vs) ((n, o) :: os) F
inductive OwK (K : PySem.W.Frag) (ca : CA) (G H : Hp) : List (NestedKey × V × V) → List (D × O) → AS → Prop
  | nil {F : AS} : OwK K ca G H [] [] F
  | cons {k : NestedKey} {kv v : V} {vs : List (NestedKey × V × V)} {d : D} {o : O} {os : List (D × O)} {F F1 F2 : AS} : D.key d = some k → R K ca G kv d → Ow K ca G H v o F1 → OwK K ca G H vs os F2 → (∀ a, F1 a → F2 a → False) → (∀ a, F1 a → F a) → (∀ a, F2 a → F a) → OwK K ca G H ((k, kv, v) :: vs) ((d, o) :: os) F
end
section
variable {K : PySem.W.Frag} {ca : CA} {G G' H H' : Hp}
theorem a0m {xs : List V} : ∀ ps, HO.lst xs ≠ .tbl ps := fun _ e => by cases e
theorem a1k {xs : List V} : ∀ ps, HO.tup xs ≠ .tbl ps := fun _ e => by cases e
theorem a15 {c dx : Addr} {xs : List (Str × V)} : ∀ ps, HO.ins c dx xs ≠ .tbl ps := fun _ e => by cases e
theorem a4t {c : Addr} : ∀ ps, HO.own c ≠ .tbl ps := fun _ e => by cases e
theorem nt_dK {xs : List (Key × V)} : ∀ ps, HO.dK xs ≠ .tbl ps := fun _ e => by cases e
theorem a1l {φ : Heap → Prop} : ∀ ps, HO.ext φ ≠ .tbl ps := fun _ e => by cases e
mutual
theorem Ow.mono (e : Same G G') : ∀ {o : O} {v : V} {F : AS}, (∀ a u, F a → H a = some u → (∀ ps, u ≠ .tbl ps) → H' a = some u) → Ow K ca G H v o F → Ow K ca G' H' v o F
  | .d x, _, _, k, h => by cases h with | d h1 => exact .d (h1.mono e)
  | .ol r xs, _, _, k, h => by cases h with | ol h1 h2 h3 h4 => exact .ol (k _ _ h3 h1 a0m) (h2.mono e) h3 h4
  | .oL xs, _, _, k, h => by cases h with | oL h1 h2 h3 h4 h5 => exact .oL (k _ _ h2 h1 a0m) h2 (OwL.mono e (fun a u q => k a u (h5 a q)) h3) h4 h5
  | .ot xs, _, _, k, h => by cases h with | ot h1 h2 h3 h4 h5 => exact .ot (k _ _ h2 h1 a1k) h2 (OwL.mono e (fun a u q => k a u (h5 a q)) h3) h4 h5
  | .oi c fs, _, _, k, h => by cases h with | oi h1 h2 h3 h4 h5 => exact .oi (k _ _ h2 h1 a15) h2 (OwF.mono e (fun a u q => k a u (h5 a q)) h3) h4 h5
  | .od fs, _, _, k, h => by cases h with | od h1 h2 h3 => exact .od (k _ _ h3 h1 nt_dK) (h2.mono e) h3
  | .kd fs, _, _, k, h => by cases h with | kd h1 h0 h2 h3 h4 h5 => exact .kd (k _ _ h2 h1 a1l) h0 h2 (OwK.mono e (fun a u q => k a u (h5 a q)) h3) h4 h5
  | .pin w o, _, _, k, h => by cases h with | pin h1 => exact .pin (Ow.mono e k h1)
  | .raw w, _, _, k, h => by cases h; exact .raw
theorem OwL.mono (e : Same G G') : ∀ {os : List O} {vs : List V} {F : AS}, (∀ a u, F a → H a = some u → (∀ ps, u ≠ .tbl ps) → H' a = some u) → OwL K ca G H vs os F → OwL K ca G' H' vs os F
  | [], _, _, k, h => by cases h; exact .nil
  | o :: os, _, _, k, h => by cases h with | cons h1 h2 h3 h4 h5 => exact .cons (Ow.mono e (fun a u q => k a u (h4 a q)) h1) (OwL.mono e (fun a u q => k a u (h5 a q)) h2) h3 h4 h5
theorem OwF.mono (e : Same G G') : ∀ {fs : List (Str × O)} {vs : List (Str × V)} {F : AS}, (∀ a u, F a → H a = some u → (∀ ps, u ≠ .tbl ps) → H' a = some u) → OwF K ca G H vs fs F → OwF K ca G' H' vs fs F
  | [], _, _, k, h => by cases h; exact .nil
  | (n, o) :: os, _, _, k, h => by cases h with | cons h1 h2 h3 h4 h5 => exact .cons (Ow.mono e (fun a u q => k a u (h4 a q)) h1) (OwF.mono e (fun a u q => k a u (h5 a q)) h2) h3 h4 h5
theorem OwK.mono (e : Same G G') : ∀ {os : List (D × O)} {vs : List (NestedKey × V × V)} {F : AS}, (∀ a u, F a → H a = some u → (∀ ps, u ≠ .tbl ps) → H' a = some u) → OwK K ca G H vs os F → OwK K ca G' H' vs os F
  | [], _, _, k, h => by cases h; exact .nil
  | (n, o) :: os, _, _, k, h => by cases h with | cons h0 hr h1 h2 h3 h4 h5 => exact .cons h0 (hr.mono e) (Ow.mono e (fun a u q => k a u (h4 a q)) h1) (OwK.mono e (fun a u q => k a u (h5 a q)) h2) h3 h4 h5
end
theorem Ow.wide {F F' : AS} (k : ∀ a, F a → F' a) : ∀ {o : O} {v : V}, Ow K ca G H v o F → Ow K ca G H v o F'
  | .d _, _, h => by cases h with | d h1 => exact .d h1
  | .ol _ _, _, h => by cases h with | ol h1 h2 h3 h4 => exact .ol h1 h2 (k _ h3) h4
  | .oL _, _, h => by cases h with | oL h1 h2 h3 h4 h5 => exact .oL h1 (k _ h2) h3 h4 fun a q => k a (h5 a q)
  | .ot _, _, h => by cases h with | ot h1 h2 h3 h4 h5 => exact .ot h1 (k _ h2) h3 h4 fun a q => k a (h5 a q)
  | .oi _ _, _, h => by cases h with | oi h1 h2 h3 h4 h5 => exact .oi h1 (k _ h2) h3 h4 fun a q => k a (h5 a q)
  | .od _, _, h => by cases h with | od h1 h2 h3 => exact .od h1 h2 (k _ h3)
  | .kd _, _, h => by cases h with | kd h1 h0 h2 h3 h4 h5 => exact .kd h1 h0 (k _ h2) h3 h4 fun a q => k a (h5 a q)
  | .pin _ _, _, h => by cases h with | pin h1 => exact .pin (Ow.wide k h1)
  | .raw _, _, h => by cases h; exact .raw
theorem OwL.wide {F F' : AS} (k : ∀ a, F a → F' a) {os : List O} {vs : List V} (h : OwL K ca G H vs os F) : OwL K ca G H vs os F' := by
  cases h with
  | nil => exact .nil
  | cons h1 h2 h3 h4 h5 => exact .cons h1 h2 h3 (fun a q => k a (h4 a q)) fun a q => k a (h5 a q)
theorem OwF.wide {F F' : AS} (k : ∀ a, F a → F' a) {os : List (Str × O)} {vs : List (Str × V)} (h : OwF K ca G H vs os F) : OwF K ca G H vs os F' := by
  cases h with
  | nil => exact .nil
  | cons h1 h2 h3 h4 h5 => exact .cons h1 h2 h3 (fun a q => k a (h4 a q)) fun a q => k a (h5 a q)
theorem OwK.wide {F F' : AS} (k : ∀ a, F a → F' a) {os : List (D × O)} {vs : List (NestedKey × V × V)} (h : OwK K ca G H vs os F) : OwK K ca G H vs os F' := by
  cases h with
  | nil => exact .nil
  | cons h0 hr h1 h2 h3 h4 h5 => exact .cons h0 hr h1 h2 h3 (fun a q => k a (h4 a q)) fun a q => k a (h5 a q)
end
mutual
def O.frz : O → D
  | .d x => x
  | .ol _ xs => .lst xs
  | .oL xs => .lst (O.frzL xs)
  | .ot xs => .tup (O.frzL xs)
  | .oi c fs => .ins c (O.frzF fs)
  | .od fs => .dic fs
  | .kd fs => .kd (O.frzK fs)
  | .pin _ o => O.frz o
  | .raw _ => .any
def O.frzL : List O → List D
  | [] => []
  | o :: os => O.frz o :: O.frzL os
def O.frzF : List (Str × O) → List (Str × D)
  | [] => []
  | (n, o) :: os => (n, O.frz o) :: O.frzF os
def O.frzK : List (D × O) → List (D × D)
  | [] => []
  | (n, o) :: os => (n, O.frz o) :: O.frzK os
end
open Classical in
noncomputable def pubG (F : AS) (G H : Hp) : Hp := fun a => if F a ∧ ∀ ps, H a ≠ some (.tbl ps) then H a else G a
theorem a2o {F : AS} {G H : Hp} {a : Addr} (h : F a) (n : ∀ ps, H a ≠ some (.tbl ps)) : pubG F G H a = H a := if_pos ⟨h, n⟩
theorem a0p {F : AS} {G H : Hp} {a : Addr} {o : HO} (h : F a) (e : H a = some o) (n : ∀ ps, o ≠ .tbl ps) : pubG F G H a = some o := (a2o h fun ps z => by rw [e] at z; exact n ps (Option.some.inj z)).trans e
theorem a1d {F : AS} {G H : Hp} {a : Addr} (h : ¬ F a) : pubG F G H a = G a := if_neg fun z => h z.1
theorem a2h {F : AS} {G H : Hp} {a : Addr} {o : HO} (h : pubG F G H a = some o) : (F a ∧ H a = some o ∧ ∀ ps, o ≠ .tbl ps) ∨ G a = some o := by
  by_cases q : F a
  · by_cases n : ∀ ps, H a ≠ some (.tbl ps)
    · rw [a2o q n] at h
      exact .inl ⟨q, h, fun ps e => n ps (by rw [h, e])⟩
    · have : pubG F G H a = G a := if_neg fun z => n z.2
      rw [this] at h
      exact .inr h
  · rw [a1d q] at h
    exact .inr h
section
variable {K : PySem.W.Frag} {ca : CA} {G H : Hp}
theorem a0r {F : AS} (h : ∀ a, F a → G a = none) : Same G (pubG F G H) := fun a u z => by
  rw [a1d (fun q => by rw [h a q] at z; cases z)]; exact z
theorem a0i {F F' : AS} (k : ∀ a, F a → F' a) (h : ∀ a, F' a → G a = none) : Same (pubG F G H) (pubG F' G H) := fun a u z => by
  rcases a2h z with ⟨q, e, n⟩ | q
  · exact a0p (k a q) e n
  · rw [a1d (fun w => by rw [h a w] at q; cases q)]
    exact q
mutual
theorem Ow.frz : ∀ {o : O} {v : V} {F : AS}, (∀ a, F a → G a = none) → Ow K ca G H v o F → R K ca (pubG F G H) v o.frz
  | .d x, _, _, k, h => by cases h with | d h1 => exact h1.mono (a0r k)
  | .ol r xs, _, _, k, h => by cases h with | ol h1 h2 h3 h4 => exact .lst (.inl (.inl (a0p h3 h1 a0m))) (h2.mono (a0r k))
  | .oL xs, _, _, k, h => by cases h with | oL h1 h2 h3 h4 h5 => exact .lst (.inl (.inl (a0p h2 h1 a0m))) ((OwL.frz (fun a q => k a (h5 a q)) h3).mono (a0i h5 k))
  | .ot xs, _, _, k, h => by cases h with | ot h1 h2 h3 h4 h5 => exact .tup (.inl (.inl (a0p h2 h1 a1k))) ((OwL.frz (fun a q => k a (h5 a q)) h3).mono (a0i h5 k))
  | .oi c fs, _, _, k, h => by cases h with | oi h1 h2 h3 h4 h5 => exact .ins (a0p h2 h1 a15) ((OwF.frz (fun a q => k a (h5 a q)) h3).mono (a0i h5 k))
  | .od fs, _, _, k, h => by cases h with | od h1 h2 h3 => exact .dic (a0p h3 h1 nt_dK) (h2.mono (a0r k))
  | .kd fs, _, _, k, h => by cases h with | kd h1 h0 h2 h3 h4 h5 => exact .kd (a0p h2 h1 a1l) h0 ((OwK.frz (fun a q => k a (h5 a q)) h3).mono (a0i h5 k))
  | .pin w o, _, _, k, h => by
    cases h with
    | pin h1 =>
      have q := Ow.frz (o := o) k h1
      exact q
  | .raw w, _, _, k, h => .any
theorem OwL.frz : ∀ {os : List O} {vs : List V} {F : AS}, (∀ a, F a → G a = none) → OwL K ca G H vs os F → RL K ca (pubG F G H) vs (O.frzL os)
  | [], _, _, k, h => by cases h; exact .nil
  | o :: os, _, _, k, h => by cases h with | cons h1 h2 h3 h4 h5 => exact .cons ((Ow.frz (fun a q => k a (h4 a q)) h1).mono (a0i h4 k)) ((OwL.frz (fun a q => k a (h5 a q)) h2).mono (a0i h5 k))
theorem OwF.frz : ∀ {fs : List (Str × O)} {vs : List (Str × V)} {F : AS}, (∀ a, F a → G a = none) → OwF K ca G H vs fs F → RF K ca (pubG F G H) vs (O.frzF fs)
  | [], _, _, k, h => by cases h; exact .nil
  | (n, o) :: os, _, _, k, h => by cases h with | cons h1 h2 h3 h4 h5 => exact .cons ((Ow.frz (fun a q => k a (h4 a q)) h1).mono (a0i h4 k)) ((OwF.frz (fun a q => k a (h5 a q)) h2).mono (a0i h5 k))
theorem OwK.frz : ∀ {os : List (D × O)} {vs : List (NestedKey × V × V)} {F : AS}, (∀ a, F a → G a = none) → OwK K ca G H vs os F → RK K ca (pubG F G H) vs (O.frzK os)
  | [], _, _, k, h => by cases h; exact .nil
  | (n, o) :: os, _, _, k, h => by cases h with | cons h0 hr h1 h2 h3 h4 h5 => exact .cons h0 (hr.mono (a0r k)) ((Ow.frz (fun a q => k a (h4 a q)) h1).mono (a0i h4 k)) ((OwK.frz (fun a q => k a (h5 a q)) h2).mono (a0i h5 k))
end
end
abbrev Env := List (Option O)
def NoTbl (G : Hp) : Prop := ∀ a ps, G a ≠ some (.tbl ps)
structure Sub (G H : Hp) : Prop where
  s : Same G H
  n : NoTbl G
instance {G H : Hp} : CoeFun (Sub G H) (fun _ => ∀ b o, G b = some o → H b = some o) := ⟨fun x => x.s⟩
instance {G H : Hp} : CoeOut (Sub G H) (Same G H) := ⟨Sub.s⟩
theorem Sub.free {G H : Hp} (e : Sub G H) {l : Addr} (h : H l = none) : G l = none := e.s.free h
def Tb (G H : Hp) (P : Addr) : Prop := ∃ ps : Array Value, H P = some (.tbl ps) ∧ TriplesOk ps.toList ∧ ∀ (pos : Pos) (cv : Value), codeAmong pos ps.toList = some cv → ∃ c, cv = .ref c ∧ G c = some (LamX.CodeO c (NM pos.line pos.col))
structure SG (ca : CA) (G H : Hp) : Prop extends Sub G H where
  t : ∀ P ∈ ca.tabs, Tb G H P
instance {ca : CA} {G H : Hp} : CoeFun (SG ca G H) (fun _ => ∀ b o, G b = some o → H b = some o) := ⟨fun x => x.s⟩
instance {ca : CA} {G H : Hp} : CoeOut (SG ca G H) (Sub G H) := ⟨SG.toSub⟩
theorem SG.free {ca : CA} {G H : Hp} (e : SG ca G H) {l : Addr} (h : H l = none) : G l = none := e.s.free h
def TExt (G' H H' : Hp) (P : Addr) (ps : Array Value) : Prop := ∃ ps' : Array Value, H' P = some (.tbl ps') ∧ (TriplesOk ps.toList → TriplesOk ps'.toList) ∧
  ∀ (pos : Pos) (cv : Value), codeAmong pos ps'.toList = some cv → codeAmong pos ps.toList = some cv ∨ ∃ c, cv = .ref c ∧ H c = none ∧ G' c = some (LamX.CodeO c (NM pos.line pos.col))
structure Sm (G H G' H' : Hp) : Prop where
  k : ∀ a o, H a = some o → (∀ ps, o ≠ .tbl ps) → H' a = some o
  d : ∀ a, H' a = none → H a = none
  t : ∀ P ps, H P = some (.tbl ps) → TExt G' H H' P ps
structure SmF (F : AS) (G H G' H' : Hp) : Prop where
  k : ∀ a o, H a = some o → ¬ F a → (∀ ps, o ≠ .tbl ps) → H' a = some o
  d : ∀ a, H' a = none → H a = none
  t : ∀ P ps, H P = some (.tbl ps) → TExt G' H H' P ps
  u : ∀ a vs, H a = some (.tup vs) → H' a = some (.tup vs)
section
variable {G H G1 H1 G2 H2 G' H' : Hp} {F F1 F2 : AS}
theorem TExt.of {P : Addr} {ps : Array Value} (h : H' P = some (.tbl ps)) : TExt G' H H' P ps := ⟨ps, h, id, fun pos cv z => .inl z⟩
theorem TExt.to {P : Addr} {ps : Array Value} (g : ∀ c q, H c = none → G1 c = some (LamX.CodeO c q) → G2 c = some (LamX.CodeO c q)) (x : TExt G1 H H' P ps) : TExt G2 H H' P ps :=
  let ⟨qs, h1, h2, h3⟩ := x
  ⟨qs, h1, h2, fun pos cv z => (h3 pos cv z).imp id fun ⟨c, e1, e2, e3⟩ => ⟨c, e1, e2, g _ _ e2 e3⟩⟩
theorem TExt.tb {P : Addr} {ps : Array Value} (g : Same G G') (x : Tb G H P) (h : H P = some (.tbl ps)) (y : TExt G' H H' P ps) : Tb G' H' P := by
  obtain ⟨qs, h1, h2, h3⟩ := x
  rw [h] at h1
  cases h1
  obtain ⟨rs, y1, y2, y3⟩ := y
  refine ⟨rs, y1, y2 h2, fun pos cv z => ?_⟩
  rcases y3 pos cv z with q | ⟨c, e1, _, e3⟩
  · obtain ⟨c, e1, e2⟩ := h3 pos cv q
    exact ⟨c, e1, g _ _ e2⟩
  · exact ⟨c, e1, e3⟩
theorem Tb.sm {P : Addr} (g : Same G G') (x : Tb G H P) (t : ∀ P ps, H P = some (.tbl ps) → TExt G' H H' P ps) : Tb G' H' P := by
  obtain ⟨ps, h1, _⟩ := id x
  exact (t P ps h1).tb g x h1
theorem TExt.trans {P : Addr} {ps : Array Value} (g : Same G1 G2) (d : ∀ a, H1 a = none → H a = none) (x : TExt G1 H H1 P ps) (y : ∀ qs, H1 P = some (.tbl qs) → TExt G2 H1 H2 P qs) : TExt G2 H H2 P ps := by
  obtain ⟨qs, x1, x2, x3⟩ := x
  obtain ⟨rs, y1, y2, y3⟩ := y qs x1
  refine ⟨rs, y1, fun z => y2 (x2 z), fun pos cv z => ?_⟩
  rcases y3 pos cv z with q | ⟨c, e1, e2, e3⟩
  · rcases x3 pos cv q with q | ⟨c, e1, e2, e3⟩
    · exact .inl q
    · exact .inr ⟨c, e1, e2, g _ _ e3⟩
  · exact .inr ⟨c, e1, d c e2, e3⟩
theorem Sm.of (_ : Same G G') (h : Same H H') : Sm G H G' H' := ⟨fun a o z _ => h a o z, fun a z => h.free z, fun P ps z => .of (h _ _ z)⟩
theorem Sm.refl : Sm G H G H := .of (Same.refl _) (Same.refl _)
theorem Sm.trans (g : Same G1 G2) (a : Sm G H G1 H1) (b : Sm G1 H1 G2 H2) : Sm G H G2 H2 :=
  ⟨fun x o z n => b.k x o (a.k x o z n) n, fun x z => a.d x (b.d x z), fun P ps x => (a.t P ps x).trans g a.d fun qs z => b.t P qs z⟩
theorem Sm.free (a : Sm G H G1 H1) {l : Addr} (h : H1 l = none) : H l = none := a.d l h
theorem Sm.ex_ (a : Sm G H G1 H1) {l : Addr} {o : HO} (h : H l = some o) : ∃ u, H1 l = some u := by
  cases e : H1 l with
  | none => rw [a.d l e] at h; cases h
  | some u => exact ⟨u, rfl⟩
theorem Sm.lst (a : Sm G H G1 H1) {l : Addr} {xs : List V} (h : H l = some (.lst xs)) : H1 l = some (.lst xs) := a.k _ _ h a0m
theorem Sm.tup (a : Sm G H G1 H1) {l : Addr} {xs : List V} (h : H l = some (.tup xs)) : H1 l = some (.tup xs) := a.k _ _ h a1k
theorem Sm.ins (a : Sm G H G1 H1) {l c dx : Addr} {xs : List (Str × V)} (h : H l = some (.ins c dx xs)) : H1 l = some (.ins c dx xs) := a.k _ _ h a15
theorem Sm.own (a : Sm G H G1 H1) {l c : Addr} (h : H l = some (.own c)) : H1 l = some (.own c) := a.k _ _ h a4t
theorem Sm.dK (a : Sm G H G1 H1) {l : Addr} {xs : List (Key × V)} (h : H l = some (.dK xs)) : H1 l = some (.dK xs) := a.k _ _ h nt_dK
theorem Sm.ext (a : Sm G H G1 H1) {l : Addr} {φ : Heap → Prop} (h : H l = some (.ext φ)) : H1 l = some (.ext φ) := a.k _ _ h a1l
theorem Sm.more (a : Sm G H G1 H1) (g : Same G1 G2) : Sm G H G2 H1 := ⟨a.k, a.d, fun P ps x => (a.t P ps x).to fun c q _ z => g _ _ z⟩
theorem Sm.new (a : Sm G H G1 H1) {p : Addr} {o : HO} (h : H1 p = none) : Sm G H G1 (upd H1 p o) :=
  a.trans (Same.refl _) (.of (Same.refl _) fun x u z => by rw [upd_ne (ne_of_none z h)]; exact z)
theorem Sm.upd (a : Sm G H G1 H1) {p : Addr} {o u : HO} (hn : H p = none) (h0 : H1 p = Option.some u) (nt : ∀ ps, u ≠ .tbl ps) : Sm G H G1 (upd H1 p o) :=
  ⟨fun x w z n => by rw [upd_ne (ne_of_none z hn)]; exact a.k x w z n, fun x z => (by
    by_cases e : x = p
    · rw [e, upd_same] at z; cases z
    · rw [upd_ne e] at z; exact a.d x z), fun P ps x => (by
    obtain ⟨qs, y1, y2⟩ := a.t P ps x
    exact ⟨qs, by rw [upd_ne (fun e => by rw [e, h0] at y1; exact nt qs (Option.some.inj y1))]; exact y1, y2⟩)⟩
theorem SmF.of (a : Sm G H G1 H1) : SmF F G H G1 H1 := ⟨fun x o z _ n => a.k x o z n, a.d, a.t, fun x vs z => a.k x _ z a1k⟩
theorem SmF.sm (a : SmF F G H G1 H1) (h : ∀ x, ¬ F x) : Sm G H G1 H1 := ⟨fun x o z n => a.k x o z (h x) n, a.d, a.t⟩
theorem SmF.wide (a : SmF F G H G1 H1) (h : ∀ x, F x → F1 x) : SmF F1 G H G1 H1 := ⟨fun x o z m n => a.k x o z (fun q => m (h x q)) n, a.d, a.t, a.u⟩
theorem SmF.trans {F' : AS} (g : Same G1 G2) (o : ∀ x, F1 x → F x ∨ H x = none) (a : SmF F G H G1 H1) (b : SmF F1 G1 H1 G2 H2) : SmF F G H G2 H2 :=
  ⟨fun x u z m n => b.k x u (a.k x u z m n) (fun q => (o x q).elim m fun w => by rw [w] at z; cases z) n, fun x z => a.d x (b.d x z), fun P ps x => (a.t P ps x).trans g a.d fun qs z => b.t P qs z, fun x vs z => b.u x vs (a.u x vs z)⟩
theorem SmF.ex_ (a : SmF F G H G1 H1) {l : Addr} {o : HO} (h : H l = some o) : ∃ u, H1 l = some u := by
  cases e : H1 l with
  | none => rw [a.d l e] at h; cases h
  | some u => exact ⟨u, rfl⟩
theorem SmF.plain (_ : Same G G') (h : ∀ a o, H a = some o → ¬ F a → H' a = some o) (n : ∀ a ps, F a → H a ≠ some (.tbl ps)) (d : ∀ a, F a → H' a = none → H a = none) (nu : ∀ a vs, F a → H a ≠ some (.tup vs)) : SmF F G H G' H' :=
  ⟨fun a o z m _ => h a o z m, fun a z => (by
    cases e : H a with
    | none => rfl
    | some o =>
      by_cases q : F a
      · rw [d a q z] at e; cases e
      · rw [h a o e q] at z; cases z), fun P ps z => .of (h _ _ z fun q => n _ _ q z), fun x vs z => h _ _ z fun q => nu _ _ q z⟩
theorem SmF.upd1 {p : Addr} {o u : HO} (g : Same G G') (h0 : H p = some u) (nt : ∀ ps, u ≠ .tbl ps) (fp : F p) (nu : ∀ vs, u ≠ .tup vs := by intro _ e; cases e) : SmF F G H G' (upd H p o) :=
  SmF.wide (F := fun a => a = p) (.plain g (fun a u z nf => by rw [upd_ne nf]; exact z) (fun a ps e z => by rw [e, h0] at z; exact nt ps (Option.some.inj z)) (fun a e z => by rw [e, upd_same] at z; cases z) fun a vs e z => by rw [e, h0] at z; exact nu vs (Option.some.inj z)) fun a e => by rw [e]; exact fp
theorem Sub.grow (s : Sub G H) (g : Same G G') (h : Same G' H') (n : NoTbl G') : Sub G' H' := ⟨h, n⟩
theorem SG.sm {ca : CA} (s : SG ca G H) (gg : Same G G') (g : Sub G' H') (h : Sm G H G' H') : SG ca G' H' := ⟨g, fun P hP => (s.t P hP).sm gg h.t⟩
theorem SG.smF {ca : CA} (s : SG ca G H) (gg : Same G G') (g : Sub G' H') (h : SmF F G H G' H') : SG ca G' H' := ⟨g, fun P hP => (s.t P hP).sm gg h.t⟩
theorem NoTbl.upd {p : Addr} {o : HO} (n : NoTbl G) (h : ∀ ps, o ≠ .tbl ps) : NoTbl (upd G p o) := fun a ps z => by
  by_cases e : a = p
  · rw [e, upd_same] at z
    exact h ps (Option.some.inj z)
  · rw [upd_ne e] at z
    exact n a ps z
end
def Fr' (H H' : Hp) : Prop := ∀ a, H' a = none → H a = none
theorem Fr'.refl (H : Hp) : Fr' H H := fun _ h => h
theorem Fr'.trans {H H1 H2 : Hp} (a : Fr' H H1) (b : Fr' H1 H2) : Fr' H H2 := fun x h => a x (b x h)
theorem Fr'.free {H H' : Hp} (a : Fr' H H') {l : Addr} (h : H' l = none) : H l = none := a l h
theorem Same.fr {H H' : Hp} (e : Same H H') : Fr' H H' := fun _ h => e.free h
theorem Sm.fr {G H G' H' : Hp} (e : Sm G H G' H') : Fr' H H' := e.d
structure EnvOk (K : PySem.W.Frag) (ca : CA) (G H : Hp) (σ : L2.St) (ρ : Env) (f : Nat → AS) : Prop where
  sub : SG ca G H
  slot : ∀ i o, ρ[i]? = some (some o) → ∃ v, σ[i]? = some (some v) ∧ Ow K ca G H v o (f i)
  sep : ∀ i j a, f i a → f j a → i = j
  out : ∀ i a, f i a → G a = none ∧ ∃ o, H a = some o
structure Grow (G H G' H' : Hp) : Prop where
  g : Same G G'
  sub : Sub G' H'
  h : Sm G H G' H'
  new : ∀ a o, G' a = some o → G a = some o ∨ H a = none
structure Evo (G H : Hp) (F : AS) (G' H' : Hp) (F' : AS) : Prop where
  g : Same G G'
  sub : Sub G' H'
  h : SmF F G H G' H'
  new : ∀ a o, G' a = some o → G a = some o ∨ H a = none ∨ F a
  own : ∀ a, F' a → F a ∨ H a = none
abbrev All (f : Nat → AS) : AS := fun a => ∃ i, f i a
section
variable {K : PySem.W.Frag} {ca : CA} {G H G1 H1 G2 H2 G' H' : Hp} {σ : L2.St} {ρ ρ' : Env} {f : Nat → AS}
theorem Grow.refl (s : Sub G H) : Grow G H G H := ⟨Same.refl _, s, .refl, fun a o h => .inl h⟩
theorem Grow.trans (a : Grow G H G1 H1) (b : Grow G1 H1 G2 H2) : Grow G H G2 H2 :=
  ⟨a.g.trans b.g, b.sub, a.h.trans b.g b.h, fun x o h => by
    rcases b.new x o h with q | q
    · exact a.new x o q
    · exact .inr (a.h.free q)⟩
theorem Evo.of_grow {F : AS} (a : Grow G H G' H') : Evo G H F G' H' F :=
  ⟨a.g, a.sub, .of a.h, fun x o h => (a.new x o h).elim .inl fun q => .inr (.inl q), fun _ h => .inl h⟩
theorem Evo.trans {F F1 F2 : AS} (a : Evo G H F G1 H1 F1) (b : Evo G1 H1 F1 G2 H2 F2) : Evo G H F G2 H2 F2 := by
  have back : ∀ x, H1 x = none → H x = none ∨ F x := fun x z => .inl (a.h.d x z)
  refine ⟨a.g.trans b.g, b.sub, a.h.trans (F' := F) b.g a.own b.h, fun x o h => ?_, fun x h => ?_⟩
  · rcases b.new x o h with q | q | q
    · exact a.new x o q
    · rcases back x q with z | z
      · exact .inr (.inl z)
      · exact .inr (.inr z)
    · rcases a.own x q with z | z
      · exact .inr (.inr z)
      · exact .inr (.inl z)
  · rcases b.own x h with q | q
    · exact a.own x q
    · rcases back x q with z | z
      · exact .inr z
      · exact .inl z
theorem Evo.refl {F : AS} (s : Sub G H) : Evo G H F G H F := .of_grow (.refl s)
theorem Evo.less {F F' F2 : AS} (a : Evo G H F G' H' F') (k : ∀ x, F2 x → F' x) : Evo G H F G' H' F2 := ⟨a.g, a.sub, a.h, a.new, fun x h => a.own x (k x h)⟩
theorem EnvOk.grow (E : EnvOk K ca G H σ ρ f) (g : Grow G H G' H') : EnvOk K ca G' H' σ ρ f := by
  refine ⟨E.sub.sm g.g g.sub g.h, fun i o h => ?_, E.sep, fun i a h => ?_⟩
  · obtain ⟨v, q1, q2⟩ := E.slot i o h
    exact ⟨v, q1, q2.mono g.g fun a u _ z n => g.h.k a u z n⟩
  · obtain ⟨q1, o, q2⟩ := E.out i a h
    refine ⟨?_, g.h.ex_ q2⟩
    cases q : G' a with
    | none => rfl
    | some u =>
      rcases g.new a u q with z | z
      · rw [q1] at z; cases z
      · rw [q2] at z; cases z
theorem EnvOk.store (E : EnvOk K ca G H σ ρ f) {v : V} {o : O} {g : AS} {i : Nat} (hi : i < σ.length) (h : Ow K ca G H v o g) (new : ∀ a, g a → (∀ j, j ≠ i → ¬ f j a) ∧ G a = none ∧ ∃ u, H a = some u) :
    EnvOk K ca G H (σ.set i (some v)) (ρ.set i (some o)) (fun j => if j = i then g else f j) := by
  refine ⟨E.sub, fun j u hj => ?_, fun j k a h1 h2 => ?_, fun j a h1 => ?_⟩
  · by_cases e : j = i
    · subst e
      have hl : j < (ρ.set j (some o)).length := (List.getElem?_eq_some_iff.mp hj).1
      rw [List.length_set] at hl
      rw [List.getElem?_set_self hl] at hj
      cases hj
      exact ⟨v, List.getElem?_set_self hi, by simpa using h⟩
    · rw [List.getElem?_set_ne (Ne.symm e)] at hj
      obtain ⟨w, q1, q2⟩ := E.slot j u hj
      exact ⟨w, by rw [List.getElem?_set_ne (Ne.symm e)]; exact q1, by simpa [e] using q2⟩
  · by_cases e1 : j = i
    · by_cases e2 : k = i
      · rw [e1, e2]
      · simp only [e1, if_true, e2, if_false] at h1 h2
        exact ((new a h1).1 k e2 h2).elim
    · by_cases e2 : k = i
      · simp only [e1, if_false, e2, if_true] at h1 h2
        exact ((new a h2).1 j e1 h1).elim
      · simp only [e1, if_false, e2] at h1 h2
        exact E.sep j k a h1 h2
  · by_cases e1 : j = i
    · simp only [e1, if_true] at h1
      exact (new a h1).2
    · simp only [e1, if_false] at h1
      exact E.out j a h1
def Env.le (ρ' ρ : Env) : Prop := ∀ (i : Nat) (o : O), ρ'[i]? = some (some o) → ρ[i]? = some (some o)
theorem EnvOk.weak (E : EnvOk K ca G H σ ρ f) (h : Env.le ρ' ρ) : EnvOk K ca G H σ ρ' f := ⟨E.sub, fun i o q => E.slot i o (h i o q), E.sep, E.out⟩
end
end Lk
namespace Lk
open PySem PySem.Spec PyProof.Rows L2
open Sem (wp)
section
variable {β : Type}
def kIx (xs : List (NestedKey × β)) (k : NestedKey) : Option Nat := xs.findIdx? fun x => decide (x.1 = k)
end
section
variable {prog : Program} {w : World} {A : Around} {E : Value → Shared → Prop} {s : Shared}
abbrev NK (h : Heap) (k : NestedKey) (v : Value) : Prop := NestedIs h k v ∧ k.depth ≤ 8
theorem NK.inj {h : Heap} {x y : NestedKey} {v : Value} (a : NK h x v) (b : NK h y v) : x = y := NestedIs.inj _ _ _ a.1 b.1
def kVal {β : Type} (xs : List (NestedKey × β)) (k : NestedKey) : Option β := (kIx xs k).bind fun j => xs[j]?.map (·.2)
def kPut {α β : Type} (xs : List (NestedKey × α × β)) (k : NestedKey) (a : α) (v : β) : List (NestedKey × α × β) := match kIx xs k with
  | some j => xs.modify j fun x => (x.1, x.2.1, v)
  | none => xs ++ [(k, a, v)]
end
end Lk
namespace Lk
open PySem PySem.Spec PyProof.Rows L2
open Sem (wp)
section
variable {prog : Program} {w : World} {A : Around} {E : Value → Shared → Prop} {s : Shared} {d : Addr} {k : NestedKey} {key : Value} {xs : List (NestedKey × Value × Value)}
end
end Lk
namespace Lk
open PySem PySem.Spec PyProof.Rows L2
open Sem (wp)
def KeyV (X : Cx) (H : Hp) (k : NestedKey) (v : V) : Prop := ∀ (h : Heap) (u : Value), HOk X.prog X.w H h → X.K.In h → RelV v u → NK h k u
section
variable {X : Cx} {pins : List (Addr × Obj)} {σ : L2.St} {H : Hp} {s : Shared} {a : Addr} {kvs : List (NestedKey × V × V)}
end
structure KAsk (X : Cx) (H : Hp) (a : Addr) (kvs : List (NestedKey × V × V)) (k : NestedKey) (y : V) : Prop where
  at_ : ∃ ep, H a = some (DkO X.w ep a kvs)
  ok : DkOk a kvs
  ks : ∀ e ∈ kvs, KeyV X H e.1 e.2.1
  key : KeyV X H k y
section
variable {X : Cx} {o i e value : Expr} {pos pos' : Pos} {td ty tv : TE}
end
end Lk
namespace Lk
open PySem PySem.Spec PyProof.Rows L2
structure Gb (Hb G H G' H' : Hp) : Prop where
  g : Same G G'
  sub : Sub G' H'
  h : Sm G H G' H'
  new : ∀ a o, G' a = some o → G a = some o ∨ Hb a = none
section
variable {Hb G H G1 H1 G2 H2 : Hp}
theorem Gb.refl (s : Sub G H) : Gb Hb G H G H := ⟨Same.refl _, s, .refl, fun _ _ h => .inl h⟩
theorem Gb.trans (a : Gb Hb G H G1 H1) (b : Gb Hb G1 H1 G2 H2) : Gb Hb G H G2 H2 :=
  ⟨a.g.trans b.g, b.sub, a.h.trans b.g b.h, fun x o h => (b.new x o h).elim (a.new x o) .inr⟩
theorem Gb.of {H0 : Hp} (s : Fr' Hb H0) (a : Grow G H0 G1 H1) : Gb Hb G H0 G1 H1 := ⟨a.g, a.sub, a.h, fun x o h => (a.new x o h).elim .inl fun q => .inr (s x q)⟩
theorem Gb.grow (a : Gb H G H G1 H1) : Grow G H G1 H1 := ⟨a.g, a.sub, a.h, a.new⟩
theorem Gb.alloc {p : Addr} {o : HO} (s : Sub G H) (b : Fr' Hb H) (hp : H p = none) (nt : ∀ ps, o ≠ .tbl ps := by first | exact a0m | exact a1k | exact a15 | exact nt_dK | exact a1l | (intro ps z; cases z)) : Gb Hb G H (upd G p o) (upd H p o) := by
  have gp : G p = none := s.free hp
  have gg : Same G (upd G p o) := fun a u h => by
    rw [upd_ne (ne_of_none h gp)]; exact h
  refine ⟨gg, ⟨fun a u h => ?_, s.n.upd nt⟩, .of gg fun a u h => ?_, fun a u h => ?_⟩
  · by_cases e : a = p
    · subst e
      rw [upd_same] at h ⊢
      exact h
    · rw [upd_ne e] at h ⊢
      exact s a u h
  · rw [upd_ne (ne_of_none h hp)]; exact h
  · by_cases e : a = p
    · subst e
      exact .inr (b _ hp)
    · rw [upd_ne e] at h
      exact .inl h
theorem Gb.own {p : Addr} {o : HO} (s : Sub G H) (hp : H p = none) : Gb Hb G H G (upd H p o) := by
  refine ⟨Same.refl _, ⟨fun a u h => ?_, s.n⟩, .of (Same.refl _) fun a u h => ?_, fun a u h => .inl h⟩
  · rw [upd_ne (ne_of_none (s a u h) hp)]; exact s a u h
  · rw [upd_ne (ne_of_none h hp)]; exact h
end
structure Cr {α : Type} (K : PySem.W.Frag) (ca : CA) (W : WX) (ρ : Env) (σ : L2.St) (Hb G H : Hp) (m : Res α) (P : α → Hp → Hp → Prop) : Prop where
  sb : Fr' Hb H
  env : ∃ f, EnvOk K ca G H σ ρ f ∧ ∀ i a, f i a → ∃ u, Hb a = some u
  nb : m ≠ .bug
  ok : ∀ a, m = .ok a → ∀ G' H', Gb Hb G H G' H' → P a G' H'
  ex : ∀ c, m = .exc c → ∀ G' H', Gb Hb G H G' H' → W (.ref (ca c)) none σ H'
section
variable {α β : Type} {K : PySem.W.Frag} {ca : CA} {W : WX} {ρ : Env} {σ : L2.St} {Hb G H G1 H1 : Hp} {P : α → Hp → Hp → Prop} {P' : β → Hp → Hp → Prop}
theorem EnvOk.gb {f : Nat → AS} (E : EnvOk K ca G H σ ρ f) (b : ∀ i a, f i a → ∃ u, Hb a = some u) (g : Gb Hb G H G1 H1) : EnvOk K ca G1 H1 σ ρ f := by
  refine ⟨E.sub.sm g.g g.sub g.h, fun i o h => ?_, E.sep, fun i a h => ?_⟩
  · obtain ⟨v, q1, q2⟩ := E.slot i o h
    exact ⟨v, q1, q2.mono g.g fun a u _ z n => g.h.k a u z n⟩
  · obtain ⟨q1, o, q2⟩ := E.out i a h
    refine ⟨?_, g.h.ex_ q2⟩
    cases q : G1 a with
    | none => rfl
    | some u =>
      rcases g.new a u q with z | z
      · rw [q1] at z; cases z
      · obtain ⟨w, hw⟩ := b i a h
        rw [hw] at z; cases z
theorem Cr.sub {m : Res α} (h : Cr K ca W ρ σ Hb G H m P) : Sub G H := let ⟨_, E, _⟩ := h.env; E.sub.toSub
theorem Cr.cut {m : Res α} {k : α → Res β} (h : Cr K ca W ρ σ Hb G H (m >>= k) P') (hk : ∀ a G1 H1, m = .ok a → Gb Hb G H G1 H1 → Cr K ca W ρ σ Hb G1 H1 (k a) P' → P a G1 H1) : Cr K ca W ρ σ Hb G H m P := by
  obtain ⟨f, E, hf⟩ := h.env
  refine ⟨h.sb, ⟨f, E, hf⟩, fun e => h.nb (by rw [e]; rfl), fun a e G1 H1 gr => hk a G1 H1 e gr ⟨h.sb.trans gr.h.fr, ⟨f, E.gb hf gr, hf⟩, fun e2 => h.nb (by rw [e]; exact e2), fun b e2 G2 H2 gr2 => h.ok b (by rw [e]; exact e2) G2 H2 (gr.trans gr2), fun c e2 G2 H2 gr2 => h.ex c (by rw [e]; exact e2) G2 H2 (gr.trans gr2)⟩,
    fun c e G1 H1 gr => h.ex c (by rw [e]; rfl) G1 H1 gr⟩
theorem Cr.to {m : Res α} {P2 : α → Hp → Hp → Prop} (h : Cr K ca W ρ σ Hb G H m P) (hk : ∀ a G1 H1, m = .ok a → Gb Hb G H G1 H1 → P a G1 H1 → P2 a G1 H1) : Cr K ca W ρ σ Hb G H m P2 :=
  ⟨h.sb, h.env, h.nb, fun a e G1 H1 gr => hk a G1 H1 e gr (h.ok a e G1 H1 gr), h.ex⟩
theorem Cr.done {a : α} (h : Cr K ca W ρ σ Hb G H (.ok a) P) : P a G H := h.ok a rfl G H (.refl h.sub)
theorem Cr.go {a : α} (h : Cr K ca W ρ σ Hb G H (.ok a) P) (g : Gb Hb G H G1 H1) : P a G1 H1 := h.ok a rfl G1 H1 g
end
section
variable (K : PySem.W.Frag) (ca : CA) (W : WX) (ρ : Env)
def tD (m : Res D) : TE := fun σ H Q => ∃ Hb G, Cr K ca W ρ σ Hb G H m fun d G' H' => ∀ v, R K ca G' v d → Q v H'
def tL (m : Res (List D)) : TE := fun σ H Q => ∃ Hb G, Cr K ca W ρ σ Hb G H m fun xs G' H' => ∀ p vs, Hb p = none → G' p = none → H' p = some (.lst vs) → RL K ca G' vs xs → Q (.ref p) H'
def tB (m : Res Bool) : TT := fun σ H Q => ∃ Hb G, Cr K ca W ρ σ Hb G H m fun b _ H' => Q b H'
def tArg (m : Res (List D)) : TA := fun σ H Q => ∃ Hb G, Cr K ca W ρ σ Hb G H m fun ds G' H' => ∀ vs, RL K ca G' vs ds → Q vs H'
end
theorem PE.of {X : Cx} {e : Expr} {t t' : TE} (h : PE X e t) (k : ∀ σ H Q, t' σ H Q → t σ H Q) : PE X e t' := ⟨fun pins s σ H Q I q => h.run pins s σ H Q I (k σ H Q q)⟩
theorem PT.of {X : Cx} {e : Expr} {t t' : TT} (h : PT X e t) (k : ∀ σ H Q, t' σ H Q → t σ H Q) : PT X e t' := ⟨fun pins s σ H Q I q => h.run pins s σ H Q I (k σ H Q q)⟩
theorem PW.of {X : Cx} {e : Expr} {t t' : TT} (h : PW X e t) (k : ∀ σ H Q, t' σ H Q → t σ H Q) : PW X e t' := ⟨fun wh pins s σ H Q I q => h.run wh pins s σ H Q I (k σ H Q q)⟩
theorem PA.of {X : Cx} {e : List Expr} {t t' : TA} (h : PA X e t) (k : ∀ σ H Q, t' σ H Q → t σ H Q) : PA X e t' := ⟨fun pos pins s σ H Q I q => h.run pos pins s σ H Q I (k σ H Q q)⟩
theorem PE.two {X : Cx} {e : Expr} {t t' : TE} (h : PE X e t) (h' : PE X e t') : PE X e (fun σ H Q => t σ H Q ∨ t' σ H Q) := ⟨fun pins s σ H Q I q => q.elim (h.run pins s σ H Q I) (h'.run pins s σ H Q I)⟩
theorem PS.of {X : Cx} {e : Stmt} {t t' : TS} (h : PS X e t) (k : ∀ D σ H, t' D σ H → t D σ H) : PS X e t' := ⟨fun pins s σ H D I q => h.run pins s σ H D I (k D σ H q)⟩
theorem PSs.of {X : Cx} {e : List Stmt} {t t' : TS} (h : PSs X e t) (k : ∀ D σ H, t' D σ H → t D σ H) : PSs X e t' := ⟨fun pins s σ H D I q => h.run pins s σ H D I (k D σ H q)⟩
def Lift2 (K : PySem.W.Frag) (ca : CA) (r : R2) (f : D → D → Res D) : Prop := ∀ {Hb G H : Hp} {v w : V} {x y : D} {Q : VK}, Fr' Hb H → Sub G H → R K ca G v x → R K ca G w y → f x y ≠ .bug →
  (∀ z G' H', f x y = .ok z → Gb Hb G H G' H' → ∀ v', R K ca G' v' z → Q v' H') → r v w H Q
def LiftA (K : PySem.W.Frag) (ca : CA) (r : List V → Hp → VK → Prop) (f : List D → Res D) : Prop := ∀ {Hb G H : Hp} {vs : List V} {xs : List D} {Q : VK}, Fr' Hb H → Sub G H → RL K ca G vs xs → f xs ≠ .bug →
  (∀ z G' H', f xs = .ok z → Gb Hb G H G' H' → ∀ v', R K ca G' v' z → Q v' H') → r vs H Q
def a3h (K : PySem.W.Frag) (ca : CA) (r : List V → Hp → VK → Prop) (f : List D → Res (List D)) : Prop := ∀ {G H : Hp} {vs : List V} {xs : List D} {Q : VK}, Sub G H → RL K ca G vs xs → f xs ≠ .bug →
  (∀ zs p ws, f xs = .ok zs → H p = none → RL K ca G ws zs → Q (.ref p) (upd H p (.lst ws))) → r vs H Q
section
variable {X : Cx} {ca : CA} {W : WX} {ρ : Env} {a b c e : Expr} {es : List Expr} {pos : Pos} {ma mb mc m : Res D} {i : Nat}
theorem e_var {n : Str} {p : Pos} {x : D} (hN : X.N[i]? = some n) (hv : Vis X.env.scope n) (h : ρ[i]? = some (some (.d x))) (hd : (n == ("__debug__" : Str)) = false) (hcd : (n == ("__classdict__" : Str)) = false) : PE X (.Name n p) (tD X.K ca W ρ (.ok x)) :=
  PE.of (pe_var hN hv hd hcd) fun σ H Q ⟨Hb, G, h1⟩ => by
    obtain ⟨f, E, _⟩ := h1.env
    obtain ⟨v, q1, q2⟩ := E.slot i _ h
    cases q2 with
    | d q2 => exact ⟨v, q1, h1.done v q2⟩
theorem a1e {v : V} {x : D} (h : PE X e (tC v)) (r : ∀ G, R X.K ca G v x) : PE X e (tD X.K ca W ρ (.ok x)) := PE.of h fun σ H Q ⟨Hb, G, h1⟩ => h1.done v (r G)
theorem e_int {i : Int} {j pos} : PE X (.Constant (.int i) j pos) (tD X.K ca W ρ (.ok (.int i))) := a1e pe_int fun _ => .int _
theorem e_str {x : Str} {j pos} : PE X (.Constant (.str x) j pos) (tD X.K ca W ρ (.ok (.str x))) := a1e pe_str fun _ => .str _
theorem e_bl {x : Bool} {j pos} : PE X (.Constant (.bool x) j pos) (tD X.K ca W ρ (.ok (.bl x))) := a1e pe_bl fun _ => .bl _
theorem e_non {j pos} : PE X (.Constant .none j pos) (tD X.K ca W ρ (.ok .non)) := a1e pe_non fun _ => .non
theorem e_op {op : Operator} {r : R2} {f : D → D → Res D} (ho : OpR X (binaryOp op) r) (l : Lift2 X.K ca r f) (ha : PE X a (tD X.K ca W ρ ma)) (hb : PE X b (tD X.K ca W ρ mb)) :
    PE X (.BinOp a op b pos) (tD X.K ca W ρ (ma >>= fun x => mb >>= fun y => f x y)) :=
  PE.of (pe_op ho ha hb) fun σ H Q ⟨Hb, G, h⟩ => ⟨Hb, G, h.cut fun x G1 H1 _ g1 h1 v rv => ⟨Hb, G1, h1.cut fun y G2 H2 _ g2 h2 w rw' =>
    l h2.sb h2.sub (rv.mono g2.g) rw' h2.nb fun z G' H' ez g' v' r' => h2.ok z ez G' H' g' v' r'⟩⟩
theorem e_cmp {op : CmpOp} {r : R2} {f : D → D → Res D} (ho : OpR X (compareOp op) r) (l : Lift2 X.K ca r f) (ha : PE X a (tD X.K ca W ρ ma)) (hb : PE X b (tD X.K ca W ρ mb)) (hm : behindInMarks op b = false) :
    PE X (.Compare a [op] [b] pos) (tD X.K ca W ρ (ma >>= fun x => mb >>= fun y => f x y)) :=
  PE.of (pe_cmpR ho ha hb hm) fun σ H Q ⟨Hb, G, h⟩ => ⟨Hb, G, h.cut fun x G1 H1 _ g1 h1 v rv => ⟨Hb, G1, h1.cut fun y G2 H2 _ g2 h2 w rw' =>
    l h2.sb h2.sub (rv.mono g2.g) rw' h2.nb fun z G' H' ez g' v' r' => h2.ok z ez G' H' g' v' r'⟩⟩
def D.toB : D → Res Bool
  | .bl b => .ok b
  | _ => .bug
@[simp] theorem a4u (b : Bool) : D.toB (.bl b) = .ok b := rfl
theorem t_cmp {op : CmpOp} {r : R2} {f : D → D → Res D} (ho : OpR X (compareOp op) r) (l : Lift2 X.K ca r f) (ha : PE X a (tD X.K ca W ρ ma)) (hb : PE X b (tD X.K ca W ρ mb)) (hm : behindInMarks op b = false) :
    PT X (.Compare a [op] [b] pos) (tB X.K ca W ρ (ma >>= fun x => mb >>= fun y => f x y >>= D.toB)) :=
  PT.of (pt_cmpR ho ha hb hm) fun σ H Q ⟨Hb, G, h⟩ => ⟨Hb, G, h.cut fun x G1 H1 _ g1 h1 v rv => ⟨Hb, G1, h1.cut fun y G2 H2 _ g2 h2 w rw' => by
    have h3 := h2.cut (P := fun z G' H' => ∀ v', R X.K ca G' v' z → ∃ k, v' = V.bl k ∧ Q k H') fun z G3 H3 ez g3 h4 v' r' => by
      cases z with
      | bl k =>
        cases r'
        exact ⟨k, rfl, h4.done⟩
      | _ => exact (h4.nb rfl).elim
    exact l h2.sb h2.sub (rv.mono g2.g) rw' h3.nb fun z G' H' ez g' v' r' => h3.ok z ez G' H' g' v' r'⟩⟩
def D.truth : D → Res Bool
  | .non => .ok false
  | .bl b => .ok b
  | .int i => .ok (i != 0)
  | .str s => if s.length ≤ 100000 then .ok (s.length != 0) else .bug
  | .lst xs => .ok (!xs.isEmpty)
  | .tup xs => .ok (!xs.isEmpty)
  | _ => .bug
theorem sz' {n : Nat} (h : n ≤ 100000) : n ≤ sizeLine := Nat.le_trans h (by decide)
theorem a1f (ha : PE X a (tD X.K ca W ρ ma)) (he : ∀ whole, isTrue a X.env whole = (do let v ← whole; standAt a.pos; holding [v] (truthy v)) := by intro _; rfl) : PT X a (tB X.K ca W ρ (ma >>= D.truth)) :=
  PT.of (pt_truth ha he) fun σ H Q ⟨Hb, G, h⟩ => ⟨Hb, G, h.cut fun x G1 H1 _ g1 h1 v rv => by
    cases x with
    | non => cases rv; exact ⟨false, rfl, h1.done⟩
    | bl k => cases rv; exact ⟨k, rfl, h1.done⟩
    | int i => cases rv; exact ⟨_, rfl, h1.done⟩
    | str s =>
      cases rv
      by_cases hs : s.length ≤ 100000
      · have e : D.truth (.str s) = .ok (s.length != 0) := if_pos hs
        refine ⟨_, ⟨sz' hs, ?_⟩, h1.ok _ e _ _ (.refl h1.sub)⟩
        cases hz : s.length with
        | zero => rfl
        | succ n => simp; omega
      · exact (h1.nb (if_neg hs)).elim
    | lst xs =>
      cases rv with
      | lst q1 q2 =>
        refine ⟨_, .inl ⟨_, Same.sqL h1.sub q1, rfl⟩, ?_⟩
        have e := RL.length q2
        rename_i a' vs
        have e2 : (!vs.isEmpty) = (!xs.isEmpty) := by cases vs <;> cases xs <;> first | rfl | (simp at e)
        rw [e2]
        exact h1.done
    | tup xs =>
      cases rv with
      | tup q1 q2 =>
        refine ⟨_, .inr (.inl ⟨_, Same.sqT h1.sub q1, rfl⟩), ?_⟩
        have e := RL.length q2
        rename_i a' vs
        have e2 : (!vs.isEmpty) = (!xs.isEmpty) := by cases vs <;> cases xs <;> first | rfl | (simp at e)
        rw [e2]
        exact h1.done
    | ins c fs => exact (h1.nb rfl).elim
    | dic fs => exact (h1.nb rfl).elim
    | kd fs => exact (h1.nb rfl).elim
    | fn n ws => exact (h1.nb rfl).elim
    | any => exact (h1.nb rfl).elim⟩
variable {na nb : Res Bool} {rest : List Expr}
theorem t_not (ha : PT X a (tB X.K ca W ρ na)) : PT X (.UnaryOp .Not a pos) (tB X.K ca W ρ (na >>= fun x => .ok (!x))) :=
  PT.of (pt_not ha) fun σ H Q ⟨Hb, G, h⟩ => ⟨Hb, G, h.cut fun x G1 H1 _ g1 h1 => h1.done⟩
theorem a4v (ha : PT X a (tB X.K ca W ρ na)) : PW X (.BoolOp .And [a] pos) (tB X.K ca W ρ na) := pw_and1 ha
theorem w_or1 (ha : PT X a (tB X.K ca W ρ na)) : PW X (.BoolOp .Or [a] pos) (tB X.K ca W ρ na) := pw_or1 ha
theorem w_and (ha : PT X a (tB X.K ca W ρ na)) (hb : PW X (.BoolOp .And (b :: rest) pos) (tB X.K ca W ρ nb)) : PW X (.BoolOp .And (a :: b :: rest) pos) (tB X.K ca W ρ (na >>= fun x => if x then nb else .ok false)) :=
  PW.of (pw_and ha hb) fun σ H Q ⟨Hb, G, h⟩ => ⟨Hb, G, h.cut fun x G1 H1 _ g1 h1 => by
    cases x with
    | true => exact ⟨Hb, G1, h1⟩
    | false => exact h1.done⟩
theorem w_or (ha : PT X a (tB X.K ca W ρ na)) (hb : PW X (.BoolOp .Or (b :: rest) pos) (tB X.K ca W ρ nb)) : PW X (.BoolOp .Or (a :: b :: rest) pos) (tB X.K ca W ρ (na >>= fun x => if x then .ok true else nb)) :=
  PW.of (pw_or ha hb) fun σ H Q ⟨Hb, G, h⟩ => ⟨Hb, G, h.cut fun x G1 H1 _ g1 h1 => by
    cases x with
    | true => exact h1.done
    | false => exact ⟨Hb, G1, h1⟩⟩
variable {mas : Res (List D)}
theorem a_nil : PA X [] (tArg X.K ca W ρ (.ok [])) := PA.of pa_nil fun σ H Q ⟨Hb, G, h⟩ => h.done [] .nil
theorem a0d (ha : PE X e (tD X.K ca W ρ ma)) (hr : PA X es (tArg X.K ca W ρ mas)) (hs : starEach (e :: es) X.env = (false, eval e X.env) :: starEach es X.env := by rfl) : PA X (e :: es) (tArg X.K ca W ρ (ma >>= fun x => mas >>= fun xs => .ok (x :: xs))) :=
  PA.of (pa_cons ha hr hs) fun σ H Q ⟨Hb, G, h⟩ => ⟨Hb, G, h.cut fun x G1 H1 _ g1 h1 v rv => ⟨Hb, G1, h1.cut fun xs G2 H2 _ g2 h2 vs rvs => h2.done _ (.cons (rv.mono g2.g) rvs)⟩⟩
def Res.sized (xs : List D) : Res (List D) := if xs.length ≤ 100000 then .ok xs else .bug
theorem Res.sized_ok {xs : List D} (h : xs.length ≤ 100000) : Res.sized xs = .ok xs := if_pos h
theorem e_tup {k} (h : PA X es (tArg X.K ca W ρ mas)) : PE X (.Tuple es k pos) (tD X.K ca W ρ (mas >>= fun xs => Res.sized xs >>= fun xs => .ok (.tup xs))) :=
  PE.of (pe_tup h) fun σ H Q ⟨Hb, G, h⟩ => ⟨Hb, G, h.cut fun xs G1 H1 _ g1 h1 vs rvs => by
    by_cases hz : xs.length ≤ 100000
    · rw [Res.sized_ok hz] at h1
      refine ⟨sz' (by rw [rvs.length]; exact hz), fun p hp => ?_⟩
      have g := Gb.alloc (o := .tup vs) h1.sub h1.sb hp
      exact h1.ok _ rfl _ _ g _ (.tup (.inl (.inl upd_same)) (rvs.mono g.g))
    · exact (h1.nb (by unfold Res.sized; rw [if_neg hz]; rfl)).elim⟩
theorem e_lst (h : PA X es (tArg X.K ca W ρ mas)) : PE X (.List es pos) (tL X.K ca W ρ (mas >>= fun xs => Res.sized xs)) :=
  PE.of (pe_lst h) fun σ H Q ⟨Hb, G, h⟩ => ⟨Hb, G, h.cut fun xs G1 H1 _ g1 h1 vs rvs => by
    by_cases hz : xs.length ≤ 100000
    · rw [Res.sized_ok hz] at h1
      refine ⟨sz' (by rw [rvs.length]; exact hz), fun p hp => ?_⟩
      exact h1.go (Gb.own h1.sub hp) p vs (h1.sb.free hp) (h1.sub.free hp) upd_same rvs
    · exact (h1.nb (if_neg hz)).elim⟩
theorem e_pub (h : PE X e (tL X.K ca W ρ mas)) : PE X e (tD X.K ca W ρ (mas >>= fun xs => .ok (.lst xs))) :=
  PE.of h fun σ H Q ⟨Hb, G, h⟩ => ⟨Hb, G, h.cut fun xs G1 H1 _ g1 h1 p vs hp gp hh rl => by
    have gg : Same G1 (upd G1 p (.lst vs)) := fun a u z => by
      rw [upd_ne (ne_of_none z gp)]; exact z
    have g : Gb Hb G1 H1 (upd G1 p (.lst vs)) H1 := by
      refine ⟨gg, ⟨fun a u z => ?_, h1.sub.n.upd a0m⟩, .of gg (Same.refl _), fun a u z => ?_⟩
      · by_cases e : a = p
        · subst e
          rw [upd_same] at z
          rw [hh]; exact z
        · rw [upd_ne e] at z
          exact h1.sub a u z
      · by_cases e : a = p
        · subst e
          exact .inr hp
        · rw [upd_ne e] at z
          exact .inl z
    exact h1.go g _ (.lst (.inl (.inl upd_same)) (rl.mono g.g))⟩
variable {id T : String} {n : Str} {p : Pos}
theorem a3u {r : List V → Hp → VK → Prop} {f : List D → Res D} (hc : CallR X (.type T) r) (l : LiftA X.K ca r f) (hg : Gl X n) (hm : X.mg n = none) (hv : bootBuiltins n = some (.type T)) (ha : PA X (e :: es) (tArg X.K ca W ρ mas)) (hn : n ≠ "__name__" := by decide)
    (hdb : (n == ("__debug__" : Str)) = false := by decide) (he : starEach (e :: es) X.env = (false, eval e X.env) :: starEach es X.env := by rfl) (hpl : (backTo pos (starEach es X.env)).any (·.1) = false := by rfl) : PE X (.Call (.Name n p) (e :: es) [] pos) (tD X.K ca W ρ (mas >>= fun xs => f xs)) :=
  PE.of (pe_callTy hc hg hm hv ha hn hdb he hpl) fun σ H Q ⟨Hb, G, h⟩ => ⟨Hb, G, h.cut fun xs G1 H1 _ g1 h1 vs rvs => l h1.sb h1.sub rvs h1.nb fun z G' H' ez g' v' r' => h1.ok z ez G' H' g' v' r'⟩
theorem a24 {r : List V → Hp → VK → Prop} {f : List D → Res (List D)} (hc : CallR X (.type T) r) (l : a3h X.K ca r f) (hg : Gl X n) (hm : X.mg n = none) (hv : bootBuiltins n = some (.type T)) (ha : PA X (e :: es) (tArg X.K ca W ρ mas)) (hn : n ≠ "__name__" := by decide)
    (hdb : (n == ("__debug__" : Str)) = false := by decide) (he : starEach (e :: es) X.env = (false, eval e X.env) :: starEach es X.env := by rfl) (hpl : (backTo pos (starEach es X.env)).any (·.1) = false := by rfl) : PE X (.Call (.Name n p) (e :: es) [] pos) (tL X.K ca W ρ (mas >>= fun xs => f xs)) :=
  PE.of (pe_callTy hc hg hm hv ha hn hdb he hpl) fun σ H Q ⟨Hb, G, h⟩ => ⟨Hb, G, h.cut fun xs G1 H1 _ g1 h1 vs rvs => l h1.sub rvs h1.nb fun zs q ws ez hp rl => h1.ok zs ez _ _ (Gb.own h1.sub hp) q ws (h1.sb.free hp) (h1.sub.free hp) upd_same rl⟩
end
end Lk
namespace Lk
open PySem PySem.Spec PyProof.Rows L2
theorem R.newT {K : PySem.W.Frag} {ca : CA} {G : Hp} {p : Addr} {vs : List V} {xs : List D} (gp : G p = none) (h : RL K ca G vs xs) : R K ca (upd G p (.tup vs)) (.ref p) (.tup xs) :=
  .tup (.inl (.inl upd_same)) (h.mono fun a u z => by rw [upd_ne (ne_of_none z gp)]; exact z)
theorem R.newL {K : PySem.W.Frag} {ca : CA} {G : Hp} {p : Addr} {vs : List V} {xs : List D} (gp : G p = none) (h : RL K ca G vs xs) : R K ca (upd G p (.lst vs)) (.ref p) (.lst xs) :=
  .lst (.inl (.inl upd_same)) (h.mono fun a u z => by rw [upd_ne (ne_of_none z gp)]; exact z)
def rCatR (K : PySem.W.Frag) : R2 := fun x y H Q => ∃ l b xs zs, x = .ref l ∧ y = .ref b ∧ SqL K H l xs ∧ SqL K H b zs ∧ xs.length + zs.length ≤ sizeLine ∧ ∀ p, H p = none → Q (.ref p) (upd H p (.lst (xs ++ zs)))
theorem op_catR {X : Cx} : OpR X (binaryOp .Add) (rCatR X.K) := by
  intro pins s σ H x y v u Q I rx ry h
  obtain ⟨l, b, xs, zs, rfl, rfl, hH, hB, hz, q⟩ := h
  cases rx
  cases ry
  obtain ⟨its, r, ⟨⟨c1, d1, t1, sl1⟩, n, e, hc, _, hd⟩, _⟩ := I.list hH
  obtain ⟨its2, r2, ⟨⟨c2, d2, t2, sl2⟩, n2, e2, hc2, _, hd2⟩, _⟩ := I.list hB
  simp only at hc hd hc2 hd2
  subst hc hd hc2 hd2
  have hl := r.length
  have hl2 := r2.length
  refine concat_meets ⟨_, e, rfl⟩ ⟨_, e2, rfl⟩ noFill_list_add seq_list_add PySem.F.slot_list_add PySem.F.entry_list_add (PySem.F.args_list_add_2 _ _) (PyProof.Rows.list_addW l b its.toArray its2.toArray n n2 d1 d2 sl1 sl2 (by rw [List.size_toArray, List.size_toArray]; omega)) ⟨e, e2, ?_⟩
  have ea : its.toArray ++ its2.toArray = (its ++ its2).toArray := by simp
  rw [ea]
  exact ⟨.ref _, _, I.lnew (t' := s.toks) (r.append r2) (by rw [List.length_append]; omega), rfl, q _ I.fresh⟩
def D.add : D → D → Res D
  | .int a, .int b => .ok (.int (a + b))
  | .str a, .str b => if a.length + b.length ≤ 100000 then .ok (.str (a ++ b)) else .bug
  | .lst a, .lst b => if a.length + b.length ≤ 100000 then .ok (.lst (a ++ b)) else .bug
  | .tup a, .tup b => if a.length + b.length ≤ 100000 then .ok (.tup (a ++ b)) else .bug
  | _, _ => .bug
def D.sub : D → D → Res D
  | .int a, .int b => .ok (.int (a - b))
  | _, _ => .bug
def D.mod : D → D → Res D
  | .int a, .int b => if 0 < b then .ok (.int (a % b)) else .bug
  | _, _ => .bug
def D.pow : D → D → Res D
  | .int a, .int b => if 0 ≤ b ∧ b ≤ 1000 ∧ a.natAbs < 18446744073709551616 then .ok (.int (a ^ b.toNat)) else .bug
  | _, _ => .bug
def D.neg : D → Res D
  | .int a => .ok (.int (-a))
  | _ => .bug
def D.cat : D → D → Res (List D)
  | .lst a, .lst b => if a.length + b.length ≤ 100000 then .ok (a ++ b) else .bug
  | _, _ => .bug
@[simp] theorem a3v (a b : Int) : D.add (.int a) (.int b) = .ok (.int (a + b)) := rfl
@[simp] theorem a3w (a b : Int) : D.sub (.int a) (.int b) = .ok (.int (a - b)) := rfl
@[simp] theorem a8t (a : Int) : D.neg (.int a) = .ok (.int (-a)) := rfl
theorem a3x {a b : Int} (h : 0 < b) : D.mod (.int a) (.int b) = .ok (.int (a % b)) := if_pos h
section
variable {K : PySem.W.Frag} {ca : CA} {X : Cx}
theorem fin2 {f : D → D → Res D} {Hb G H : Hp} {x y : D} {Q : VK} {z : D} {v : V} (s : Sub G H) (h : ∀ z G' H', f x y = .ok z → Gb Hb G H G' H' → ∀ v', R K ca G' v' z → Q v' H') (e : f x y = .ok z) (r : R K ca G v z) : Q v H := h z G H e (.refl s) v r
theorem l_sub : Lift2 K ca (rI0 fun i j => .int (i - j)) D.sub := by
  intro Hb G H v w x y Q sb s rv rw' nb h
  cases x <;> try exact (nb rfl).elim
  cases y <;> try exact (nb rfl).elim
  cases rv; cases rw'
  exact ⟨_, _, rfl, rfl, fin2 s h rfl (.int _)⟩
def CMulX (i j : Int) : Prop := i.natAbs.log2 + j.natAbs.log2 < 100000000
theorem CMulX.ok {i j : Int} (h : CMulX i j) : IntMulOk i j := by
  have b : ∀ x : Int, Builtin.Int.intBits x ≤ x.natAbs.log2 + 1 := fun x => by
    unfold Builtin.Int.intBits
    split <;> omega
  have h1 := b i
  have h2 := b j
  have h3 : i.natAbs.log2 + j.natAbs.log2 < 100000000 := h
  have e : bitsLine = 134217728 := by decide
  unfold IntMulOk
  intro z
  rw [Bool.and_eq_true] at z
  have z2 := z.2
  unfold Builtin.Int.intTooBig at z2
  have z3 := of_decide_eq_true z2
  rw [e] at z3
  omega
theorem l_mod : Lift2 K ca (rI (fun _ j => 0 < j) fun i j => .int (i % j)) D.mod := by
  intro Hb G H v w x y Q sb s rv rw' nb h
  cases x <;> try exact (nb rfl).elim
  cases y <;> try exact (nb rfl).elim
  cases rv; cases rw'
  rename_i a b
  by_cases hc : 0 < b
  · exact ⟨_, _, rfl, rfl, hc, fin2 s h (if_pos hc) (.int _)⟩
  · exact (nb (if_neg hc)).elim
theorem l_pow : Lift2 K ca (rI CPow fun i j => .int (i ^ j.toNat)) D.pow := by
  intro Hb G H v w x y Q sb s rv rw' nb h
  cases x <;> try exact (nb rfl).elim
  cases y <;> try exact (nb rfl).elim
  cases rv; cases rw'
  rename_i a b
  by_cases hc : 0 ≤ b ∧ b ≤ 1000 ∧ a.natAbs < 18446744073709551616
  · exact ⟨_, _, rfl, rfl, ⟨hc.1, by omega, by have := hc.2.2; omega⟩, fin2 s h (if_pos hc) (.int _)⟩
  · exact (nb (if_neg hc)).elim
def rAddA (K : PySem.W.Frag) : R2 := fun x y H Q => (rI0 (fun i j => .int (i + j)) x y H Q ∨ ∃ i j, x = .str i ∧ y = .str j ∧ i.length + j.length ≤ sizeLine ∧ Q (.str (i ++ j)) H) ∨ (rCatR K x y H Q ∨ rCatA K x y H Q)
theorem a0q : OpR X (binaryOp .Add) (rAddA X.K) := (op_add.or op_add_str).or (op_catR.or op_catA)
theorem l_add : Lift2 K ca (rAddA K) D.add := by
  intro Hb G H v w x y Q sb s rv rw' nb h
  cases x <;> try exact (nb rfl).elim
  · cases y <;> try exact (nb rfl).elim
    cases rv; cases rw'
    exact .inl (.inl ⟨_, _, rfl, rfl, fin2 s h rfl (.int _)⟩)
  · cases y <;> try exact (nb rfl).elim
    cases rv; cases rw'
    rename_i a b
    by_cases hc : a.length + b.length ≤ 100000
    · exact .inl (.inr ⟨_, _, rfl, rfl, sz' hc, fin2 s h (if_pos hc) (.str _)⟩)
    · exact (nb (if_neg hc)).elim
  · cases y <;> try exact (nb rfl).elim
    rename_i a b
    by_cases hc : a.length + b.length ≤ 100000
    · cases rv with
      | lst q1 q2 =>
        cases rw' with
        | lst p1 p2 =>
          refine .inr (.inl ⟨_, _, _, _, rfl, rfl, Same.sqL s q1, Same.sqL s p1, sz' (by rw [q2.length, p2.length]; exact hc), fun p hp => ?_⟩)
          exact h _ _ _ (if_pos hc) (Gb.alloc s sb hp) _ (R.newL (s.free hp) (q2.append p2))
    · exact (nb (if_neg hc)).elim
  · cases y <;> try exact (nb rfl).elim
    rename_i a b
    by_cases hc : a.length + b.length ≤ 100000
    · cases rv with
      | tup q1 q2 =>
        cases rw' with
        | tup p1 p2 =>
          have e : ∀ z, z = a ++ b → D.add (.tup a) (.tup b) = .ok (.tup z) := fun z hz => by rw [hz]; exact if_pos hc
          refine .inr (.inr ⟨_, _, _, _, rfl, rfl, Same.sqT s q1, Same.sqT s p1, sz' (by rw [q2.length, p2.length]; exact hc), fun hx => ?_, fun _ hy => ?_, fun _ _ p hp => ?_⟩)
          · have ha : a = [] := by
              have := q2.length
              rw [hx] at this
              cases a with
              | nil => rfl
              | cons _ _ => simp at this
            exact h _ _ _ (e b (by rw [ha]; rfl)) (.refl s) _ (.tup p1 p2)
          · have hb : b = [] := by
              have := p2.length
              rw [hy] at this
              cases b with
              | nil => rfl
              | cons _ _ => simp at this
            exact h _ _ _ (e a (by rw [hb, List.append_nil])) (.refl s) _ (.tup q1 q2)
          · exact h _ _ _ (e _ rfl) (Gb.alloc s sb hp) _ (R.newT (s.free hp) (q2.append p2))
    · exact (nb (if_neg hc)).elim
mutual
def D.eqv : D → D → Bool
  | .non, .non => true
  | .bl a, .bl b => a == b
  | .bl a, .int j => (if a then 1 else 0) == j
  | .int i, .bl b => i == (if b then 1 else 0)
  | .int i, .int j => i == j
  | .str x, .str y => x == y
  | .lst xs, .lst ys => D.eqvL xs ys
  | .tup xs, .tup ys => D.eqvL xs ys
  | _, _ => false
def D.eqvL : List D → List D → Bool
  | [], [] => true
  | x :: xs, y :: ys => D.eqv x y && D.eqvL xs ys
  | _, _ => false
end
mutual
def D.py : D → PyData
  | .non => .none
  | .bl b => .bool b
  | .int i => .int i
  | .str x => .str x
  | .lst xs => .list (D.pyL xs)
  | .tup xs => .tuple (D.pyL xs)
  | .ins _ _ => .none
  | .dic _ => .none
  | .kd _ => .none
  | .fn _ _ => .none
  | .any => .none
def D.pyL : List D → List PyData
  | [] => []
  | x :: xs => D.py x :: D.pyL xs
end
def D.fit : Nat → D → Bool
  | _, .non => true
  | _, .bl _ => true
  | _, .int _ => true
  | _, .str x => PyData.strOk x
  | n + 1, .lst xs => xs.all (D.fit n)
  | n + 1, .tup xs => xs.all (D.fit n)
  | _, _ => false
mutual
theorem a3i : ∀ {n m : Nat} {x y : D}, D.fit n x = true → D.fit m y = true → PyData.eqv x.py y.py = D.eqv x y
  | n, m, .non, y, h1, h2 => by cases y <;> first | (cases m <;> simp [D.fit] at h2; done) | rfl | (simp [D.py, PyData.eqv, D.eqv])
  | n, m, .bl _, y, h1, h2 => by cases y <;> first | (cases m <;> simp [D.fit] at h2; done) | rfl | (simp [D.py, PyData.eqv, D.eqv])
  | n, m, .int _, y, h1, h2 => by cases y <;> first | (cases m <;> simp [D.fit] at h2; done) | rfl | (simp [D.py, PyData.eqv, D.eqv])
  | n, m, .str _, y, h1, h2 => by cases y <;> first | (cases m <;> simp [D.fit] at h2; done) | rfl | (simp [D.py, PyData.eqv, D.eqv])
  | n, m, .lst xs, .lst ys, h1, h2 => by
    cases n with
    | zero => simp [D.fit] at h1
    | succ n =>
      cases m with
      | zero => simp [D.fit] at h2
      | succ m =>
        simp only [D.py, PyData.eqv, D.eqv]
        exact a1z (n := n) (m := m) (by simpa [D.fit] using h1) (by simpa [D.fit] using h2)
  | n, m, .tup xs, .tup ys, h1, h2 => by
    cases n with
    | zero => simp [D.fit] at h1
    | succ n =>
      cases m with
      | zero => simp [D.fit] at h2
      | succ m =>
        simp only [D.py, PyData.eqv, D.eqv]
        exact a1z (n := n) (m := m) (by simpa [D.fit] using h1) (by simpa [D.fit] using h2)
  | n, m, .lst xs, .non, h1, h2 => by simp [D.py, PyData.eqv, D.eqv]
  | n, m, .lst xs, .bl _, h1, h2 => by simp [D.py, PyData.eqv, D.eqv]
  | n, m, .lst xs, .int _, h1, h2 => by simp [D.py, PyData.eqv, D.eqv]
  | n, m, .lst xs, .str _, h1, h2 => by simp [D.py, PyData.eqv, D.eqv]
  | n, m, .lst xs, .tup _, h1, h2 => by simp [D.py, PyData.eqv, D.eqv]
  | n, m, .lst xs, .ins _ _, h1, h2 => by cases m <;> simp [D.fit] at h2
  | n, m, .lst xs, .dic _, h1, h2 => by cases m <;> simp [D.fit] at h2
  | n, m, .lst xs, .kd _, h1, h2 => by cases m <;> simp [D.fit] at h2
  | n, m, .lst xs, .fn _ _, h1, h2 => by cases m <;> simp [D.fit] at h2
  | n, m, .lst xs, .any, h1, h2 => by cases m <;> simp [D.fit] at h2
  | n, m, .tup xs, .non, h1, h2 => by simp [D.py, PyData.eqv, D.eqv]
  | n, m, .tup xs, .bl _, h1, h2 => by simp [D.py, PyData.eqv, D.eqv]
  | n, m, .tup xs, .int _, h1, h2 => by simp [D.py, PyData.eqv, D.eqv]
  | n, m, .tup xs, .str _, h1, h2 => by simp [D.py, PyData.eqv, D.eqv]
  | n, m, .tup xs, .lst _, h1, h2 => by simp [D.py, PyData.eqv, D.eqv]
  | n, m, .tup xs, .ins _ _, h1, h2 => by cases m <;> simp [D.fit] at h2
  | n, m, .tup xs, .dic _, h1, h2 => by cases m <;> simp [D.fit] at h2
  | n, m, .tup xs, .kd _, h1, h2 => by cases m <;> simp [D.fit] at h2
  | n, m, .tup xs, .fn _ _, h1, h2 => by cases m <;> simp [D.fit] at h2
  | n, m, .tup xs, .any, h1, h2 => by cases m <;> simp [D.fit] at h2
  | n, m, .ins _ _, y, h1, h2 => by cases n <;> simp [D.fit] at h1
  | n, m, .dic _, y, h1, h2 => by cases n <;> simp [D.fit] at h1
  | n, m, .kd _, y, h1, h2 => by cases n <;> simp [D.fit] at h1
  | n, m, .fn _ _, y, h1, h2 => by cases n <;> simp [D.fit] at h1
  | n, m, .any, y, h1, h2 => by cases n <;> simp [D.fit] at h1
theorem a1z : ∀ {n m : Nat} {xs ys : List D}, (∀ x ∈ xs, D.fit n x = true) → (∀ y ∈ ys, D.fit m y = true) → PyData.eqvAll (D.pyL xs) (D.pyL ys) = D.eqvL xs ys
  | n, m, [], [], h1, h2 => by simp [D.pyL, PyData.eqvAll, D.eqvL]
  | n, m, [], y :: ys, h1, h2 => by simp [D.pyL, PyData.eqvAll, D.eqvL]
  | n, m, x :: xs, [], h1, h2 => by simp [D.pyL, PyData.eqvAll, D.eqvL]
  | n, m, x :: xs, y :: ys, h1, h2 => by
    simp only [D.pyL, PyData.eqvAll, D.eqvL]
    rw [a3i (h1 x List.mem_cons_self) (h2 y List.mem_cons_self), a1z (fun z hz => h1 z (List.mem_cons_of_mem _ hz)) (fun z hz => h2 z (List.mem_cons_of_mem _ hz))]
end
mutual
theorem a2p : ∀ {n : Nat} {x : D}, D.fit n x = true → x.py.canLay0 = true ∧ x.py.depth ≤ n
  | n, .non, h => by simp [D.py, PyData.canLay0, PyData.depth]
  | n, .bl _, h => by simp [D.py, PyData.canLay0, PyData.depth]
  | n, .int _, h => by simp [D.py, PyData.canLay0, PyData.depth]
  | n, .str z, h => by
    have h' : PyData.strOk z = true := by cases n <;> simpa [D.fit] using h
    simp [D.py, PyData.canLay0, PyData.depth, h']
  | 0, .lst xs, h => by simp [D.fit] at h
  | n + 1, .lst xs, h => by
    have q := a1g (n := n) (xs := xs) (by simpa [D.fit] using h)
    simp only [D.py, PyData.canLay0, PyData.depth]
    exact ⟨q.1, by have := q.2; omega⟩
  | 0, .tup xs, h => by simp [D.fit] at h
  | n + 1, .tup xs, h => by
    have q := a1g (n := n) (xs := xs) (by simpa [D.fit] using h)
    simp only [D.py, PyData.canLay0, PyData.depth]
    exact ⟨q.1, by have := q.2; omega⟩
  | n, .ins _ _, h => by cases n <;> simp [D.fit] at h
  | n, .dic _, h => by cases n <;> simp [D.fit] at h
  | n, .kd _, h => by cases n <;> simp [D.fit] at h
  | n, .fn _ _, h => by cases n <;> simp [D.fit] at h
  | n, .any, h => by cases n <;> simp [D.fit] at h
theorem a1g : ∀ {n : Nat} {xs : List D}, (∀ x ∈ xs, D.fit n x = true) → PyData.canLayAll0 (D.pyL xs) = true ∧ PyData.depthAll (D.pyL xs) ≤ n
  | n, [], h => by simp [D.pyL, PyData.canLayAll0, PyData.depthAll]
  | n, x :: xs, h => by
    have q1 := a2p (h x List.mem_cons_self)
    have q2 := a1g (n := n) (xs := xs) fun z hz => h z (List.mem_cons_of_mem _ hz)
    simp only [D.pyL, PyData.canLayAll0, PyData.depthAll, q1.1, q2.1, Bool.and_self, true_and]
    have := q1.2
    have := q2.2
    omega
end
theorem a05 {n : Nat} {x : D} (h : D.fit n x = true) (hn : n ≤ 64) : SeqAt.shaped x.py = true := by
  have q := a2p h
  unfold SeqAt.shaped
  rw [q.1, Bool.true_and]
  exact decide_eq_true (by omega)
mutual
theorem R.dp {G H : Hp} (s : Same G H) : ∀ {n : Nat} {x : D} {v : V}, D.fit n x = true → R K ca G v x → Dp K H v x.py
  | n, .non, _, h, r => by cases r; exact .non
  | n, .bl _, _, h, r => by cases r; exact .bl _
  | n, .int _, _, h, r => by cases r; exact .int _
  | n, .str _, _, h, r => by cases r; exact .str _
  | 0, .lst xs, _, h, r => by simp [D.fit] at h
  | n + 1, .lst xs, _, h, r => by
    cases r with
    | lst q1 q2 => exact .lst (Same.sqL s q1) (RL.dp s (n := n) (by simpa [D.fit] using h) q2)
  | 0, .tup xs, _, h, r => by simp [D.fit] at h
  | n + 1, .tup xs, _, h, r => by
    cases r with
    | tup q1 q2 => exact .tup (Same.sqT s q1) (RL.dp s (n := n) (by simpa [D.fit] using h) q2)
  | n, .ins _ _, _, h, r => by cases n <;> simp [D.fit] at h
  | n, .dic _, _, h, r => by cases n <;> simp [D.fit] at h
  | n, .kd _, _, h, r => by cases n <;> simp [D.fit] at h
  | n, .fn _ _, _, h, r => by cases n <;> simp [D.fit] at h
  | n, .any, _, h, r => by cases n <;> simp [D.fit] at h
theorem RL.dp {G H : Hp} (s : Same G H) : ∀ {n : Nat} {xs : List D} {vs : List V}, (∀ x ∈ xs, D.fit n x = true) → RL K ca G vs xs → DpAll K H vs (D.pyL xs)
  | n, [], _, h, r => by cases r; exact .nil
  | n, x :: xs, _, h, r => by
    cases r with
    | cons r1 r2 => exact .cons (R.dp s (h x List.mem_cons_self) r1) (RL.dp s (fun z hz => h z (List.mem_cons_of_mem _ hz)) r2)
end
def D.scal : D → D → Bool
  | .non, .non => true | .non, .int _ => true | .int _, .non => true | .non, .bl _ => true | .bl _, .non => true | .non, .str _ => true | .str _, .non => true
  | .int _, .int _ => true | .bl _, .bl _ => true | .str _, .str _ => true
  | .int _, .str _ => true | .str _, .int _ => true | .bl _, .str _ => true | .str _, .bl _ => true
  | _, _ => false
def D.eqB (x y : D) : Res Bool := if (D.scal x y || (D.fit 20 x && D.fit 20 y)) = true then .ok (D.eqv x y) else .bug
def D.eq (x y : D) : Res D := D.eqB x y >>= fun b => .ok (.bl b)
def D.ne (x y : D) : Res D := D.eqB x y >>= fun b => .ok (.bl (!b))
@[simp] theorem a8u (a b : Int) : D.eqB (.int a) (.int b) = .ok (a == b) := rfl
@[simp] theorem a8v (a b : Str) : D.eqB (.str a) (.str b) = .ok (a == b) := rfl
@[simp] theorem b0j (a b : Bool) : D.eqB (.bl a) (.bl b) = .ok (a == b) := rfl
@[simp] theorem b0k (a b : Int) : D.eq (.int a) (.int b) = .ok (.bl (a == b)) := rfl
@[simp] theorem b0l (a b : Int) : D.ne (.int a) (.int b) = .ok (.bl (!(a == b))) := rfl
@[simp] theorem b0m (a b : Str) : D.eq (.str a) (.str b) = .ok (.bl (a == b)) := rfl
@[simp] theorem b0n (a b : Str) : D.ne (.str a) (.str b) = .ok (.bl (!(a == b))) := rfl
@[simp] theorem eq_bl (a b : Bool) : D.eq (.bl a) (.bl b) = .ok (.bl (a == b)) := rfl
@[simp] theorem ne_bl (a b : Bool) : D.ne (.bl a) (.bl b) = .ok (.bl (!(a == b))) := rfl
theorem a3y {G : Hp} {x y : D} {v w : V} (h : D.scal x y = true) (rv : R K ca G v x) (rw' : R K ca G w y) : L2.scal v w = true ∧ decide (v = w) = D.eqv x y := by
  cases rv <;> cases rw' <;> first
    | (simp [D.scal] at h; done)
    | (refine ⟨rfl, ?_⟩; simp [D.eqv]; done)
    | (refine ⟨rfl, ?_⟩; simp [D.eqv]; exact (Bool.beq_eq_decide_eq _ _).symm)
def rEqA (K : PySem.W.Frag) : R2 := fun x y H Q => rEq x y H Q ∨ rEqD K x y H Q
theorem a3j (hu : X.A.units + 64 < cLine) : OpR X (compareOp .Eq) (rEqA X.K) := op_eq.or (op_eqD hu)
theorem a2i {x y : D} {k : Bool → Res D} (nb : (D.eqB x y >>= k) ≠ .bug) : (D.scal x y = true ∨ (D.fit 20 x = true ∧ D.fit 20 y = true)) ∧ D.eqB x y = .ok (D.eqv x y) := by
  by_cases hc : (D.scal x y || (D.fit 20 x && D.fit 20 y)) = true
  · refine ⟨?_, if_pos hc⟩
    rcases Bool.or_eq_true_iff.mp hc with q | q
    · exact .inl q
    · exact .inr (Bool.and_eq_true_iff.mp q)
  · refine (nb ?_).elim
    unfold D.eqB
    rw [if_neg hc]
    rfl
theorem l_eq : Lift2 K ca (rEqA K) D.eq := by
  intro Hb G H v w x y Q sb s rv rw' nb h
  obtain ⟨hc, e⟩ := a2i nb
  have e2 : D.eq x y = .ok (.bl (D.eqv x y)) := by unfold D.eq; rw [e]; rfl
  rcases hc with hc | ⟨h1, h2⟩
  · obtain ⟨q1, q2⟩ := a3y hc rv rw'
    refine .inl ⟨q1, ?_⟩
    rw [q2]
    exact h _ _ _ e2 (.refl s) _ (.bl _)
  · refine .inr ⟨_, _, R.dp s h1 rv, R.dp s h2 rw', a05 h1 (by decide), a05 h2 (by decide), ?_⟩
    rw [a3i h1 h2]
    exact h _ _ _ e2 (.refl s) _ (.bl _)
def D.cmpI (p : Int → Int → Bool) : D → D → Res D
  | .int a, .int b => .ok (.bl (p a b))
  | _, _ => .bug
def D.lt : D → D → Res D := D.cmpI fun i j => decide (i < j)
def D.le : D → D → Res D := D.cmpI fun i j => decide (i ≤ j)
def D.gt : D → D → Res D := D.cmpI fun i j => decide (j < i)
def D.ge : D → D → Res D := D.cmpI fun i j => decide (j ≤ i)
@[simp] theorem a3z (a b : Int) : D.lt (.int a) (.int b) = .ok (.bl (decide (a < b))) := rfl
@[simp] theorem a8w (a b : Int) : D.le (.int a) (.int b) = .ok (.bl (decide (a ≤ b))) := rfl
@[simp] theorem a8x (a b : Int) : D.gt (.int a) (.int b) = .ok (.bl (decide (b < a))) := rfl
@[simp] theorem a8y (a b : Int) : D.ge (.int a) (.int b) = .ok (.bl (decide (b ≤ a))) := rfl
theorem a4w {p : Int → Int → Bool} : Lift2 K ca (rI0 fun i j => .bl (p i j)) (D.cmpI p) := by
  intro Hb G H v w x y Q sb s rv rw' nb h
  cases x <;> try exact (nb rfl).elim
  cases y <;> try exact (nb rfl).elim
  cases rv; cases rw'
  exact ⟨_, _, rfl, rfl, fin2 s h rfl (.bl _)⟩
def D.isN : D → D → Res D
  | .non, .non => .ok (.bl true)
  | .any, .non => .bug
  | _, .non => .ok (.bl false)
  | _, _ => .bug
def D.notN : D → D → Res D
  | .non, .non => .ok (.bl false)
  | .any, .non => .bug
  | _, .non => .ok (.bl true)
  | _, _ => .bug
theorem a4x : Lift2 K ca (fun x y H Q => y = .non ∧ Q (.bl (!decide (x = .non))) H) D.notN := by
  intro Hb G H v w x y Q sb s rv rw' nb h
  have hy : y = .non := by
    cases y <;> first | rfl | exact (nb (by cases x <;> rfl)).elim
  subst hy
  cases rw'
  refine ⟨rfl, ?_⟩
  cases rv <;> first
    | exact (nb rfl).elim
    | exact fin2 s h rfl (.bl _)
    | (rw [decide_eq_false (by intro z; cases z)]; exact fin2 s h rfl (.bl _))
    | (rw [decide_eq_true rfl]; exact fin2 s h rfl (.bl _))
def D.flat : D → Bool
  | .non => true | .bl _ => true | .int _ => true | .str _ => true | _ => false
def D.has (x : D) : D → Res Bool
  | .str z => match x with
    | .str ⟨⟨[c]⟩⟩ => .ok (decide (c ∈ z.cps.toList))
    | _ => .bug
  | .lst xs => if (D.flat x && xs.all D.flat) = true then .ok (xs.any fun y => D.eqv y x) else if (D.fit 19 x && D.fit 20 (.lst xs)) = true then .ok (xs.any fun y => D.eqv y x) else .bug
  | .tup xs => if (D.flat x && xs.all D.flat) = true then .ok (xs.any fun y => D.eqv y x) else .bug
  | _ => .bug
end
end Lk
namespace Lk
open PySem PySem.Spec PyProof.Rows L2
@[simp] theorem a30 {α β γ : Type} (m : Res α) (f : α → Res β) (g : β → Res γ) : ((m >>= f) >>= g) = (m >>= fun a => f a >>= g) := by cases m <;> rfl
def Res.opt {α : Type} : Option α → Res α
  | some a => .ok a
  | none => .bug
@[simp] theorem a1h {α : Type} (a : α) : Res.opt (some a) = .ok a := rfl
@[simp] theorem a1i {α : Type} : Res.opt (none : Option α) = .bug := rfl
section
variable {K : PySem.W.Frag} {ca : CA} {G G' H H' : Hp}
theorem RL.atI {ds : List D} {vs : List V} {i : Int} {d : D} (h : RL K ca G vs ds) (e : L2.atI ds i = some d) : ∃ v, L2.atI vs i = some v ∧ R K ca G v d := by
  unfold L2.atI at e ⊢
  rw [h.length]
  cases q : ixN ds.length i with
  | none => rw [q] at e; cases e
  | some j =>
    rw [q] at e
    exact h.get e
def D.item : D → D → Res D
  | .lst xs, .int i => Res.opt (L2.atI xs i)
  | .tup xs, .int i => Res.opt (L2.atI xs i)
  | .str s, .int i => if s.length ≤ 100000 then (match L2.atI s.cps.toList i with | some c => .ok (.str ⟨#[c]⟩) | none => .bug) else .bug
  | _, _ => .bug
theorem a4y : Lift2 K ca (rIx K) D.item := by
  intro Hb G H v w x y Q sb s rv rw' nb h
  have hy : ∃ i, y = .int i := by
    cases y with
    | int i => exact ⟨i, rfl⟩
    | _ => exact (nb (by cases x <;> rfl)).elim
  obtain ⟨i, rfl⟩ := hy
  cases rw'
  cases x with
  | str z =>
    cases rv
    by_cases hz : z.length ≤ 100000
    · cases e : L2.atI z.cps.toList i with
      | none => exact (nb (by simp only [D.item, if_pos hz, e])).elim
      | some c => exact .inr (.inr ⟨_, _, _, rfl, rfl, sz' hz, e, h _ _ _ (by simp only [D.item, if_pos hz, e]) (.refl s) _ (.str _)⟩)
    · exact (nb (if_neg hz)).elim
  | lst xs =>
    cases rv with
    | lst q1 q2 =>
      cases e : L2.atI xs i with
      | none => exact (nb (by simp only [D.item, e, a1i])).elim
      | some d =>
        obtain ⟨v, e1, r1⟩ := q2.atI e
        exact .inl ⟨_, _, _, _, rfl, rfl, Same.sqL s q1, e1, h _ _ _ (by simp only [D.item, e, a1h]) (.refl s) _ r1⟩
  | tup xs =>
    cases rv with
    | tup q1 q2 =>
      cases e : L2.atI xs i with
      | none => exact (nb (by simp only [D.item, e, a1i])).elim
      | some d =>
        obtain ⟨v, e1, r1⟩ := q2.atI e
        exact .inr (.inl ⟨_, _, _, _, rfl, rfl, Same.sqT s q1, e1, h _ _ _ (by simp only [D.item, e, a1h]) (.refl s) _ r1⟩)
  | _ => exact (nb rfl).elim
def cutD {α : Type} (xs : List α) (lo hi : Option Int) : List α := (xs.drop (HT.sIx xs.length 0 lo)).take (HT.sIx xs.length xs.length hi - HT.sIx xs.length 0 lo)
theorem RL.cut {ds : List D} {vs : List V} {lo hi : Option Int} (h : RL K ca G vs ds) : RL K ca G (cutV vs lo hi) (cutD ds lo hi) := by
  unfold cutV cutD
  rw [h.length]
  exact (h.drop _).take _
end
section
variable {X : Cx} {ca : CA} {W : WX} {ρ : Env} {a b c e o : Expr} {es : List Expr} {pos : Pos} {ma mb mc m : Res D} {mas : Res (List D)} {i : Nat}
theorem a3k (ha : PE X a (tD X.K ca W ρ ma)) (hb : PE X b (tD X.K ca W ρ mb)) (hs : PlainIx b := by intro _ _; rfl) : PE X (.Subscript a b pos) (tD X.K ca W ρ (ma >>= fun x => mb >>= fun y => D.item x y)) :=
  PE.of (pe_ix ix_seq ha hb hs) fun σ H Q ⟨Hb, G, h⟩ => ⟨Hb, G, h.cut fun x G1 H1 _ g1 h1 v rv => ⟨Hb, G1, h1.cut fun y G2 H2 _ g2 h2 w rw' =>
    a4y h2.sb h2.sub (rv.mono g2.g) rw' h2.nb fun z G' H' ez g' v' r' => h2.ok z ez G' H' g' v' r'⟩⟩
def D.toI : D → Res (Option Int)
  | .int i => .ok (some i)
  | _ => .bug
@[simp] theorem a8z (i : Int) : D.toI (.int i) = .ok (some i) := rfl
variable {lo hi : Option Expr} {ml mh : Res (Option Int)} {p2 : Pos}
theorem RF.lookup {K : PySem.W.Frag} {G : Hp} {f : Str} {d : D} : ∀ {fs : List (Str × D)} {vs : List (Str × V)}, RF K ca G vs fs → fs.lookup f = some d → ∃ v, vs.lookup f = some v ∧ R K ca G v d
  | [], _, h, e => by simp [List.lookup] at e
  | (n, d0) :: fs, _, h, e => by
    cases h with
    | cons h1 h2 =>
      by_cases hn : (f == n) = true
      · rw [List.lookup_cons, hn] at e
        have e' : d0 = d := Option.some.inj e
        subst e'
        exact ⟨_, by rw [List.lookup_cons, hn], h1⟩
      · have hn' : (f == n) = false := by simpa using hn
        rw [List.lookup_cons, hn'] at e
        obtain ⟨v, q1, q2⟩ := RF.lookup h2 e
        exact ⟨v, by rw [List.lookup_cons, hn']; exact q1, q2⟩
def D.len : List D → Res D
  | [.str z] => if z.length ≤ 100000 then .ok (.int z.length) else .bug
  | [.lst xs] => .ok (.int xs.length)
  | [.tup xs] => .ok (.int xs.length)
  | _ => .bug
@[simp] theorem a80 (xs : List D) : D.len [.lst xs] = .ok (.int xs.length) := rfl
@[simp] theorem a81 (xs : List D) : D.len [.tup xs] = .ok (.int xs.length) := rfl
def one {α : Type} (f : D → Res α) : List D → Res α
  | [x] => f x
  | _ => .bug
theorem RL.one {K : PySem.W.Frag} {G : Hp} {α : Type} {f : D → Res α} {xs : List D} {vs : List V} (nb : one f xs ≠ .bug) (h : RL K ca G vs xs) : ∃ x v, xs = [x] ∧ vs = [v] ∧ R K ca G v x := by
  match xs, nb with
  | [x], _ =>
    cases h with
    | cons h1 h2 =>
      cases h2
      exact ⟨x, _, rfl, rfl, h1⟩
  | [], nb => exact (nb rfl).elim
  | _ :: _ :: _, nb => exact (nb rfl).elim
def two' {α : Type} (f : Int → Int → Res α) : List D → Res α
  | [.int a, .int b] => f a b
  | _ => .bug
@[simp] theorem a82 {α : Type} (f : Int → Int → Res α) (a b : Int) : two' f [.int a, .int b] = f a b := rfl
theorem RL.two' {K : PySem.W.Frag} {G : Hp} {α : Type} {f : Int → Int → Res α} {xs : List D} {vs : List V} (nb : two' f xs ≠ .bug) (h : RL K ca G vs xs) : ∃ a b, xs = [.int a, .int b] ∧ vs = [.int a, .int b] := by
  match xs, nb with
  | [.int a, .int b], _ =>
    cases h with
    | cons h1 h2 =>
      cases h2 with
      | cons h2 h3 =>
        cases h3; cases h1; cases h2
        exact ⟨a, b, rfl, rfl⟩
  | [], nb => exact (nb rfl).elim
  | [x], nb => cases x <;> exact (nb rfl).elim
  | [x, y], nb => cases x <;> first | exact (nb rfl).elim | (cases y <;> first | exact (nb rfl).elim | (cases h with | cons h1 h2 => cases h2 with | cons h2 h3 => cases h3; cases h1; cases h2; exact ⟨_, _, rfl, rfl⟩))
  | x :: y :: _ :: _, nb => cases x <;> first | exact (nb rfl).elim | (cases y <;> exact (nb rfl).elim)
def D.max2 : List D → Res D := Lk.two' fun a b => .ok (.int (if b > a then b else a))
def D.min2 : List D → Res D := Lk.two' fun a b => .ok (.int (if b < a then b else a))
@[simp] theorem a7u (a b : Int) : D.max2 [.int a, .int b] = .ok (.int (if b > a then b else a)) := rfl
@[simp] theorem a7v (a b : Int) : D.min2 [.int a, .int b] = .ok (.int (if b < a then b else a)) := rfl
def D.ints : List D → Option (List Int)
  | [] => some []
  | .int i :: r => (D.ints r).map (i :: ·)
  | _ :: _ => none
@[simp] theorem a25 : ∀ (ns : List Int), D.ints (ns.map D.int) = some ns
  | [] => rfl
  | n :: ns => by simp [D.ints, a25 ns]
def D.sum : List D → Res D := one fun
  | .lst xs => (match D.ints xs with | some ns => .ok (.int ns.sum) | none => .bug)
  | _ => .bug
@[simp] theorem a7w (ns : List Int) : D.sum [.lst (ns.map D.int)] = .ok (.int ns.sum) := by simp [D.sum, one]
def D.abs : List D → Res D := one fun
  | .int i => .ok (.int (if i < 0 then -i else i))
  | _ => .bug
def D.toList : List D → Res (List D) := one fun
  | .lst xs => .ok xs
  | .tup xs => .ok xs
  | _ => .bug
@[simp] theorem a4l (xs : List D) : D.toList [.lst xs] = .ok xs := rfl
@[simp] theorem a4m (xs : List D) : D.toList [.tup xs] = .ok xs := rfl
theorem a26 {K : PySem.W.Frag} : a3h K ca (fun xs H Q => ∃ p ys, xs = [.ref p] ∧ (SqL K H p ys ∨ SqT K H p ys) ∧ ∀ l, H l = none → Q (.ref l) (upd H l (.lst ys))) D.toList := by
  intro G H vs xs Q s r nb h
  obtain ⟨x, v, rfl, rfl, r1⟩ := RL.one nb r
  cases x <;> try exact (nb rfl).elim
  · cases r1 with
    | lst q1 q2 => exact ⟨_, _, rfl, .inl (Same.sqL s q1), fun l hl => h _ l _ rfl hl q2⟩
  · cases r1 with
    | tup q1 q2 => exact ⟨_, _, rfl, .inr (Same.sqT s q1), fun l hl => h _ l _ rfl hl q2⟩
def D.toTup : List D → Res D := one fun
  | .lst xs => .ok (.tup xs)
  | .tup xs => .ok (.tup xs)
  | _ => .bug
@[simp] theorem a4z (xs : List D) : D.toTup [.lst xs] = .ok (.tup xs) := rfl
@[simp] theorem a40 (xs : List D) : D.toTup [.tup xs] = .ok (.tup xs) := rfl
theorem a31 {K : PySem.W.Frag} : LiftA K ca (fun xs H Q => ∃ p ys, xs = [.ref p] ∧ ((SqL K H p ys ∧ ∀ l, H l = none → Q (.ref l) (upd H l (.tup ys))) ∨ (SqT K H p ys ∧ Q (.ref p) H))) D.toTup := by
  intro Hb G H vs xs Q sb s r nb h
  obtain ⟨x, v, rfl, rfl, r1⟩ := RL.one nb r
  cases x <;> try exact (nb rfl).elim
  · cases r1 with
    | lst q1 q2 => exact ⟨_, _, rfl, .inl ⟨Same.sqL s q1, fun l hl => h _ _ _ rfl (Gb.alloc s sb hl) _ (R.newT (s.free hl) q2)⟩⟩
  · cases r1 with
    | tup q1 q2 => exact ⟨_, _, rfl, .inr ⟨Same.sqT s q1, h _ _ _ rfl (.refl s) _ (.tup q1 q2)⟩⟩
def D.isT (T : String) : D → Res D
  | .non => Res.opt ((kitB "NoneType" T).map D.bl)
  | .bl _ => Res.opt ((kitB "bool" T).map D.bl)
  | .int _ => Res.opt ((kitB "int" T).map D.bl)
  | .str _ => Res.opt ((kitB "str" T).map D.bl)
  | .lst _ => Res.opt ((kitB "list" T).map D.bl)
  | .tup _ => Res.opt ((kitB "tuple" T).map D.bl)
  | .ins _ _ => .bug
  | .dic _ => .bug
  | .kd _ => .bug
  | .fn _ _ => .bug
  | .any => .bug
end
end Lk
namespace Lk
open PySem PySem.Spec PyProof.Rows L2
inductive Out (S B T : Type) where
  | nx (s : S)
  | bk (b : B)
  | ct (b : B)
  | rt (r : T)
  | ra (c : Nat) (os : List O)
structure EX where
  e : Env
  emb : List O → Env
abbrev RtP := Hp → Hp → V → AS → Prop
def rtO {T : Type} (K : PySem.W.Frag) (ca : CA) (o : T → O) : T → RtP := fun r G H v g => Ow K ca G H v (o r) g ∧ ∀ x, g x → G x = none ∧ ∃ u, H x = some u
section
variable (K : PySem.W.Frag) (ca : CA) {S B T : Type} (W : WX) (ρx : EX) (emb : S → Env) (embB : B → Env) (out : T → RtP)
structure So (D : Ends) (G H : Hp) (F : AS) (M : Res (Out S B T)) : Prop where
  nb : M ≠ .bug
  nx : ∀ s, M = .ok (.nx s) → ∀ σ' G' H' f', Evo G H F G' H' (All f') → EnvOk K ca G' H' σ' (emb s) f' → D.nx σ' H'
  bk : ∀ s, M = .ok (.bk s) → ∀ σ' G' H' f', Evo G H F G' H' (All f') → EnvOk K ca G' H' σ' (embB s) f' → D.bk σ' H'
  ct : ∀ s, M = .ok (.ct s) → ∀ σ' G' H' f', Evo G H F G' H' (All f') → EnvOk K ca G' H' σ' (embB s) f' → D.ct σ' H'
  rt : ∀ r, M = .ok (.rt r) → ∀ v G' H' g, Evo G H F G' H' g → out r G' H' v g → D.rt v H'
  ex : ∀ c, M = .exc c → ∀ σ' G' H' f', Evo G H F G' H' (All f') → EnvOk K ca G' H' σ' ρx.e f' → W (.ref (ca c)) none σ' H'
  ra : ∀ c os, M = .ok (.ra c os) → ∀ σ' G' H' f', Evo G H F G' H' (All f') → EnvOk K ca G' H' σ' (ρx.emb os) f' → W (.ref (ca c)) none σ' H'
def tS (ρ : Env) (M : Res (Out S B T)) : TS := fun D σ H => ∃ G f, EnvOk K ca G H σ ρ f ∧ So K ca W ρx emb embB out D G H (All f) M
end
section
variable {K : PySem.W.Frag} {ca : CA} {S S' B T α : Type} {W : WX} {ρ : Env} {ρx : EX} {emb : S → Env} {emb' : S' → Env} {embB : B → Env} {out : T → RtP} {D : Ends} {G H G1 H1 : Hp} {F F1 : AS} {σ : L2.St} {f : Nat → AS}
theorem a0f {ρ : Env} : Env.le [] ρ := fun i o h => by simp at h
theorem le_refl (ρ : Env) : Env.le ρ ρ := fun _ _ h => h
theorem So.step {m : Res α} {k : α → Res (Out S B T)} {a : α} (h : So K ca W ρx emb embB out D G H F (m >>= k)) (e : m = .ok a) (v : Evo G H F G1 H1 F1) : So K ca W ρx emb embB out D G1 H1 F1 (k a) := by
  subst e
  exact ⟨fun z => h.nb z, fun s z σ' G' H' f' v' E => h.nx s z σ' G' H' f' (v.trans v') E, fun s z σ' G' H' f' v' E => h.bk s z σ' G' H' f' (v.trans v') E, fun s z σ' G' H' f' v' E => h.ct s z σ' G' H' f' (v.trans v') E,
    fun r z w G' H' g v' => h.rt r z w G' H' g (v.trans v'), fun c z σ' G' H' f' v' E => h.ex c z σ' G' H' f' (v.trans v') E, fun c os z σ' G' H' f' v' E => h.ra c os z σ' G' H' f' (v.trans v') E⟩
theorem So.on {M : Res (Out S B T)} (h : So K ca W ρx emb embB out D G H F M) (v : Evo G H F G1 H1 F1) : So K ca W ρx emb embB out D G1 H1 F1 M :=
  So.step (m := .ok ()) (k := fun _ => M) (a := ()) h rfl v
theorem So.expr {m : Res α} {k : α → Res (Out S B T)} {P : α → Hp → Hp → Prop} (h : So K ca W ρx emb embB out D G H (All f) (m >>= k)) (E : EnvOk K ca G H σ ρ f) (le : Env.le ρx.e ρ)
    (hk : ∀ a G1 H1, m = .ok a → Gb H G H G1 H1 → EnvOk K ca G1 H1 σ ρ f → So K ca W ρx emb embB out D G1 H1 (All f) (k a) → P a G1 H1) : Cr K ca W ρ σ H G H m P := by
  have hf : ∀ i a, f i a → ∃ u, H a = some u := fun i a q => (E.out i a q).2
  refine ⟨Fr'.refl _, ⟨f, E, hf⟩, fun e => h.nb (by rw [e]; rfl), fun a e G1 H1 g => hk a G1 H1 e g (E.gb hf g) (h.step e (.of_grow g.grow)), fun c e G1 H1 g => ?_⟩
  exact h.ex c (by rw [e]; rfl) σ G1 H1 f (.of_grow g.grow) ((E.gb hf g).weak le)
theorem EnvOk.put (E : EnvOk K ca G H σ ρ f) {v : V} {d : Lk.D} {i : Nat} (hi : i < σ.length) (r : R K ca G v d) :
    EnvOk K ca G H (σ.set i (some v)) (ρ.set i (some (.d d))) (fun j => if j = i then none_ else f j) := E.store hi (.d r) fun a z => z.elim
theorem a0k {i : Nat} {g : AS} {x : Addr} (h : All (fun j => if j = i then g else f j) x) : g x ∨ All f x := by
  obtain ⟨j, h⟩ := h
  by_cases e : j = i
  · simp only [e, if_true] at h
    exact .inl h
  · simp only [e, if_false] at h
    exact .inr ⟨j, h⟩
theorem EnvOk.putL (E : EnvOk K ca G H σ ρ f) {p : Addr} {vs : List V} {xs : List Lk.D} {i : Nat} (hi : i < σ.length) (hp : H p = some (.lst vs)) (gp : G p = none) (new : ∀ j, ¬ f j p) (r : RL K ca G vs xs) :
    EnvOk K ca G H (σ.set i (some (.ref p))) (ρ.set i (some (.ol none xs))) (fun j => if j = i then (fun a => a = p) else f j) :=
  E.store hi (.ol hp r rfl (fun _ e => by cases e)) fun a z => by
    subst z
    exact ⟨fun j _ => new j, gp, _, hp⟩
end
theorem PS.ofI {X : Cx} {e : Stmt} {t t' : TS} (h : PS X e t) (k : ∀ D σ H, σ.length = X.N.length → t' D σ H → t D σ H) : PS X e t' := ⟨fun pins s σ H D I q => h.run pins s σ H D I (k D σ H I.len q)⟩
theorem PSs.ofI {X : Cx} {e : List Stmt} {t t' : TS} (h : PSs X e t) (k : ∀ D σ H, σ.length = X.N.length → t' D σ H → t D σ H) : PSs X e t' := ⟨fun pins s σ H D I q => h.run pins s σ H D I (k D σ H I.len q)⟩
theorem PSs.any {X : Cx} {ι : Type} {e : List Stmt} {t : ι → TS} (h : ∀ i, PSs X e (t i)) : PSs X e (fun D σ H => ∃ i, t i D σ H) := ⟨fun pins s σ H D I ⟨i, q⟩ => (h i).run pins s σ H D I q⟩
section
variable {X : Cx} {ca : CA} {S S' B T α : Type} {W : WX} {ρ : Env} {ρx : EX} {emb : S → Env} {emb' : S' → Env} {embB : B → Env} {out : T → RtP} {e c : Expr} {st : Stmt} {rest sa sb : List Stmt} {pos pos' : Pos} {i : Nat} {n : Str} {ma mb : Res D} {mas : Res (List D)} {mc : Res Bool}
def Out.then_ {S S' B T : Type} (k : S → Res (Out S' B T)) : Out S B T → Res (Out S' B T)
  | .nx s => k s
  | .bk b => .ok (.bk b)
  | .ct b => .ok (.ct b)
  | .rt r => .ok (.rt r)
  | .ra c os => .ok (.ra c os)
@[simp] theorem a83 (k : S → Res (Out S' B T)) (c : Nat) (os : List O) : Out.then_ k (.ra c os) = .ok (.ra c os) := rfl
@[simp] theorem a84 (k : S → Res (Out S' B T)) (s : S) : Out.then_ k (.nx s) = k s := rfl
@[simp] theorem a85 (k : S → Res (Out S' B T)) (s : B) : Out.then_ k (.bk s) = .ok (.bk s) := rfl
@[simp] theorem a86 (k : S → Res (Out S' B T)) (s : B) : Out.then_ k (.ct s) = .ok (.ct s) := rfl
@[simp] theorem a87 (k : S → Res (Out S' B T)) (s : T) : Out.then_ k (.rt s) = .ok (.rt s) := rfl
theorem s_nil {s : S} (le : Env.le (emb s) ρ) : PSs X [] (tS X.K ca W ρx emb embB out ρ (.ok (.nx s))) :=
  PSs.of pss_nil fun D σ H ⟨G, f, E, h⟩ => h.nx s rfl σ G H f (.refl E.sub) (E.weak le)
theorem s_seq {M1 : Res (Out S' B T)} {M2 : S' → Res (Out S B T)} (h1 : PS X st (tS X.K ca W ρx emb' embB out ρ M1)) (h2 : ∀ s, PSs X rest (tS X.K ca W ρx emb embB out (emb' s) (M2 s))) :
    PSs X (st :: rest) (tS X.K ca W ρx emb embB out ρ (M1 >>= Out.then_ M2)) :=
  PSs.of (pss_cons h1 (PSs.any h2)) fun D σ H ⟨G, f, E, h⟩ => ⟨G, f, E, ⟨fun z => h.nb (by rw [z]; rfl), fun s z σ' G' H' f' v E' => ⟨s, G', f', E', h.step z v⟩, fun s z => h.bk s (by rw [z]; rfl), fun s z => h.ct s (by rw [z]; rfl), fun r z => h.rt r (by rw [z]; rfl), fun c z => h.ex c (by rw [z]; rfl), fun c os z => h.ra c os (by rw [z]; rfl)⟩⟩
theorem s_one {M : Res (Out S B T)} (h1 : PS X st (tS X.K ca W ρx emb embB out ρ M)) : PSs X [st] (tS X.K ca W ρx emb embB out ρ M) := pss_one h1
theorem s_pub {M : Res (Out S B T)} {r : Option V} {xs : List D} (hi : ρ[i]? = some (some (.ol r xs))) (h : PSs X rest (tS X.K ca W ρx emb embB out (ρ.set i (some (.d (.lst xs)))) M)) : PSs X rest (tS X.K ca W ρx emb embB out ρ M) :=
  PSs.of h fun D σ H ⟨G, f, E, h⟩ => by
    obtain ⟨v, q1, q2⟩ := E.slot i _ hi
    cases q2 with
    | @ol p _ vs _ _ hp rl fp _ =>
      have gp := (E.out i p fp).1
      have s1 : Same G (upd G p (.lst vs)) := fun a u z => by rw [upd_ne (ne_of_none z gp)]; exact z
      have s2 : Sub (upd G p (.lst vs)) H := ⟨fun a u z => by
        by_cases e : a = p
        · subst e
          rw [upd_same] at z
          rw [hp]; exact z
        · rw [upd_ne e] at z
          exact E.sub a u z, E.sub.n.upd a0m⟩
      have E2 : EnvOk X.K ca (upd G p (.lst vs)) H σ (ρ.set i (some (.d (.lst xs)))) (fun j => if j = i then none_ else f j) := by
        refine ⟨E.sub.sm s1 s2 (.of s1 (Same.refl _)), fun j o hj => ?_, fun j k a h1 h2 => ?_, fun j a h1 => ?_⟩
        · by_cases e : j = i
          · subst e
            have hl : j < (ρ.set j (some (.d (.lst xs)))).length := (List.getElem?_eq_some_iff.mp hj).1
            rw [List.length_set] at hl
            rw [List.getElem?_set_self hl] at hj
            cases hj
            exact ⟨_, q1, .d (.lst (.inl (.inl upd_same)) (rl.mono s1))⟩
          · rw [List.getElem?_set_ne (Ne.symm e)] at hj
            obtain ⟨w, z1, z2⟩ := E.slot j o hj
            exact ⟨w, z1, by simpa [e] using z2.mono s1 fun a u _ z _ => z⟩
        · by_cases e1 : j = i
          · simp only [e1, if_true] at h1
            exact h1.elim
          · by_cases e2 : k = i
            · simp only [e2, if_true] at h2
              exact h2.elim
            · simp only [e1, e2, if_false] at h1 h2
              exact E.sep j k a h1 h2
        · by_cases e1 : j = i
          · simp only [e1, if_true] at h1
            exact h1.elim
          · simp only [e1, if_false] at h1
            obtain ⟨z1, z2⟩ := E.out j a h1
            refine ⟨?_, z2⟩
            rw [upd_ne (fun z => e1 (E.sep j i a h1 (by rw [z]; exact fp)))]
            exact z1
      refine ⟨_, _, E2, h.on ⟨s1, s2, .of (.of s1 (Same.refl _)), fun a o z => ?_, fun a z => ?_⟩⟩
      · by_cases e : a = p
        · subst e
          exact .inr (.inr ⟨i, fp⟩)
        · rw [upd_ne e] at z
          exact .inl z
      · rcases a0k z with z | z
        · exact z.elim
        · exact .inl z
theorem a06 {M : Res (Out S B T)} {ρ' : Env} (le : Env.le ρ' ρ) (h : PSs X rest (tS X.K ca W ρx emb embB out ρ' M)) : PSs X rest (tS X.K ca W ρx emb embB out ρ M) :=
  PSs.of h fun D σ H ⟨G, f, E, h⟩ => ⟨G, f, E.weak le, h⟩
theorem s_set {k : D → Res (Out S B T)} (hN : X.N.Nodup) (hi : X.N[i]? = some n) (hx : Loc X.env.scope n) (he : PE X e (tD X.K ca W ρ ma)) (le : Env.le ρx.e ρ)
    (h : ∀ a, PSs X rest (tS X.K ca W ρx emb embB out (ρ.set i (some (.d a))) (k a))) (hs : swapsWith e (some (.Name n pos')) pos.line X.env = pure false := by rfl)
    (hf : X.fn n = true ∨ X.env.scope.names.lookup n = some .local := by first | exact .inl rfl | exact .inr rfl | assumption) : PSs X (.Assign [.Name n pos'] e pos :: rest) (tS X.K ca W ρx emb embB out ρ (ma >>= k)) :=
  PSs.ofI (pss_cons (ps_set hN hi hx he hs hf) (PSs.any h)) fun D σ H hl ⟨G, f, E, hq⟩ => ⟨H, G, hq.expr E le fun a G1 H1 ea g E1 h1 v rv => by
    have hiσ : i < σ.length := by rw [hl]; exact (List.getElem?_eq_some_iff.mp hi).1
    exact ⟨a, G1, _, E1.put hiσ rv, h1.on ((Evo.refl E1.sub).less fun x z => (a0k z).elim False.elim id)⟩⟩
theorem a41 {k : List D → Res (Out S B T)} (hN : X.N.Nodup) (hi : X.N[i]? = some n) (hx : Loc X.env.scope n) (he : PE X e (tL X.K ca W ρ mas)) (le : Env.le ρx.e ρ)
    (h : ∀ a, PSs X rest (tS X.K ca W ρx emb embB out (ρ.set i (some (.ol none a))) (k a))) (hs : swapsWith e (some (.Name n pos')) pos.line X.env = pure false := by rfl)
    (hf : X.fn n = true ∨ X.env.scope.names.lookup n = some .local := by first | exact .inl rfl | exact .inr rfl | assumption) : PSs X (.Assign [.Name n pos'] e pos :: rest) (tS X.K ca W ρx emb embB out ρ (mas >>= k)) :=
  PSs.ofI (pss_cons (ps_set hN hi hx he hs hf) (PSs.any h)) fun D σ H hl ⟨G, f, E, hq⟩ => ⟨H, G, hq.expr E le fun a G1 H1 ea g E1 h1 p vs hp gp hh rl => by
    have hiσ : i < σ.length := by rw [hl]; exact (List.getElem?_eq_some_iff.mp hi).1
    have new : ∀ j, ¬ f j p := fun j z => by
      obtain ⟨_, u, q⟩ := E.out j p z
      rw [hp] at q; cases q
    refine ⟨a, G1, _, E1.putL hiσ hh gp new rl, ?_⟩
    exact So.step (m := mas) hq ea ⟨g.g, g.sub, .of g.h, fun x o z => (g.new x o z).elim .inl fun q => .inr (.inl q), fun x z => (a0k z).elim (fun q => .inr (by rw [q]; exact hp)) .inl⟩⟩
theorem EnvOk.change {K : PySem.W.Frag} {G H : Hp} {σ : L2.St} {f : Nat → AS} (E : EnvOk K ca G H σ ρ f) {p : Addr} {vs vs0 : List V} {xs : List Lk.D} {o : HO} {r : Option V} (h0 : H p = some (.lst vs0)) (fp : f i p) (ho : o = .lst vs) (rl : RL K ca G vs xs) {v : V} (hv : σ[i]? = some (some v)) (ev : v = .ref p) (pn : ∀ w, r = some w → w = .ref p) :
    EnvOk K ca G (upd H p o) σ (ρ.set i (some (.ol r xs))) f ∧ Evo G H (All f) G (upd H p o) (All f) := by
  subst ho ev
  have gp := (E.out i p fp).1
  have sub : Sub G (upd H p (.lst vs)) := ⟨fun a u z => by rw [upd_ne (ne_of_none z gp)]; exact E.sub a u z, E.sub.n⟩
  have sm : SmF (All f) G H G (upd H p (.lst vs)) := .upd1 (Same.refl _) h0 a0m ⟨i, fp⟩
  refine ⟨⟨E.sub.smF (Same.refl _) sub sm, fun j u hj => ?_, E.sep, fun j a h1 => ?_⟩, ⟨Same.refl _, sub, sm, fun a u z => .inl z, fun a z => .inl z⟩⟩
  · by_cases e : j = i
    · subst e
      have hl : j < (ρ.set j (some (.ol r xs))).length := (List.getElem?_eq_some_iff.mp hj).1
      rw [List.length_set] at hl
      rw [List.getElem?_set_self hl] at hj
      cases hj
      exact ⟨_, hv, .ol upd_same rl fp pn⟩
    · rw [List.getElem?_set_ne (Ne.symm e)] at hj
      obtain ⟨w, z1, z2⟩ := E.slot j u hj
      refine ⟨w, z1, z2.mono (Same.refl _) fun a u' fa z _ => ?_⟩
      rw [upd_ne (fun z => e (E.sep j i a fa (by rw [z]; exact fp)))]
      exact z
  · obtain ⟨z1, u, z2⟩ := E.out j a h1
    refine ⟨z1, ?_⟩
    by_cases e : a = p
    · exact ⟨_, by rw [e]; exact upd_same⟩
    · exact ⟨u, by rw [upd_ne e]; exact z2⟩
theorem EnvOk.own {K : PySem.W.Frag} {G H : Hp} {σ : L2.St} {f : Nat → AS} {xs : List Lk.D} {r : Option V} (E : EnvOk K ca G H σ ρ f) (h : ρ[i]? = some (some (.ol r xs))) : ∃ p vs, σ[i]? = some (some (.ref p)) ∧ H p = some (.lst vs) ∧ RL K ca G vs xs ∧ f i p ∧ ∀ w, r = some w → w = .ref p := by
  obtain ⟨v, q1, q2⟩ := E.slot i _ h
  cases q2 with
  | ol a b c d => exact ⟨_, _, q1, a, b, c, d⟩
def setR (xs : List D) (k : D) (d : D) : Res (List D) := match k with
  | .int i => (match ixN xs.length i with | some j => .ok (xs.set j d) | none => .bug)
  | _ => .bug
theorem a1m {spos p0 : Pos} {b : Expr} {r : Option V} {xs : List D} {k : List D → Res (Out S B T)} (hN : X.N[i]? = some n) (hv : Vis X.env.scope n) (hd : (n == ("__debug__" : Str)) = false) (hcd : (n == ("__classdict__" : Str)) = false)
    (ho : ρ[i]? = some (some (.ol r xs))) (he : PE X e (tD X.K ca W ρ ma)) (hb : PE X b (tD X.K ca W ρ mb)) (le : Env.le ρx.e ρ) (h : ∀ ys, PSs X rest (tS X.K ca W ρx emb embB out (ρ.set i (some (.ol r ys))) (k ys)))
    (hs : swapsWithSole [.Subscript (.Name n p0) b spos] e pos.line X.env = pure false := by rfl) (hw : swappedStores [.Subscript (.Name n p0) b spos] e X.env = pure none := by rfl)
    (h1 : (assignEach [.Subscript (.Name n p0) b spos] X.env).map (·.2) = [assign (.Subscript (.Name n p0) b spos) X.env] := by rfl)
    (ha : ∀ v, assign (.Subscript (.Name n p0) b spos) X.env v = (do
      let ov ← holding [v] (eval (.Name n p0) X.env)
      let iv ← holding [v, ov] (eval b X.env)
      standAt spos
      holding [v, ov, iv] (setItem ov iv v)
      release [v, ov, iv] []) := by intro _; rfl) :
    PSs X (.Assign [.Subscript (.Name n p0) b spos] e pos :: rest) (tS X.K ca W ρx emb embB out ρ (ma >>= fun d => mb >>= fun y => setR xs y d >>= k)) :=
  PSs.of (pss_cons (ps_asg he (pg_sub (pe_var hN hv hd hcd) hb set_list ha) hs hw h1) (PSs.any h)) fun D σ H ⟨G, f, E, hq⟩ => by
    obtain ⟨p, vs, hσ, hp, rl, fp, pn⟩ := E.own ho
    refine ⟨H, G, hq.expr E le fun d G1 H1 ea g E1 h1 w rw' => ?_⟩
    refine ⟨.ref p, hσ, H1, G1, h1.expr E1 le fun y G2 H2 eb g2 E2 h2 u ru => ?_⟩
    cases y with
    | int z =>
      cases ru
      cases e : ixN xs.length z with
      | none => exact (h2.nb (by simp only [setR, e]; rfl)).elim
      | some j =>
        have e2 : setR xs (.int z) d = .ok (xs.set j d) := by simp only [setR, e]
        rw [e2] at h2
        refine ⟨p, vs, z, j, rfl, rfl, g2.h.lst (g.h.lst hp), by rw [rl.length]; exact e, xs.set j d, ?_⟩
        obtain ⟨E3, v3⟩ := E2.change (vs := vs.set j w) (xs := xs.set j d) (g2.h.lst (g.h.lst hp)) fp rfl ((rl.mono (g.g.trans g2.g)).set (rw'.mono g2.g) j) hσ rfl pn
        exact ⟨G2, f, E3, h2.on v3⟩
    | _ => exact (h2.nb rfl).elim
def Out.up {S B T : Type} : Out Empty B T → Out S B T
  | .bk b => .bk b
  | .ct b => .ct b
  | .rt r => .rt r
  | .ra c os => .ra c os
def Res.up {S B T : Type} (m : Res (Out Empty B T)) : Res (Out S B T) := m >>= fun o => .ok o.up
@[simp] theorem up_ok (o : Out Empty B T) : Res.up (S := S) (.ok o) = .ok o.up := rfl
@[simp] theorem b0o (c : Nat) : Res.up (S := S) (B := B) (T := T) (.exc c) = .exc c := rfl
@[simp] theorem b0p : Res.up (S := S) (B := B) (T := T) .bug = .bug := rfl
@[simp] theorem b0q (c : Nat) (os : List O) : Out.up (S := S) (B := B) (T := T) (.ra c os) = .ra c os := rfl
@[simp] theorem b0r (r : T) : Out.up (S := S) (B := B) (.rt r) = .rt r := rfl
@[simp] theorem b0s (r : B) : Out.up (S := S) (T := T) (.bk r) = .bk r := rfl
@[simp] theorem b0t (r : B) : Out.up (S := S) (T := T) (.ct r) = .ct r := rfl
theorem So.down {K : PySem.W.Frag} {G H : Hp} {F : AS} {D : Ends} {D' : Ends} {M : Res (Out Empty B T)} {nE : Empty → Env} (h : So K ca W ρx emb embB out D G H F (Res.up M)) (e1 : D'.bk = D.bk) (e2 : D'.ct = D.ct) (e3 : D'.rt = D.rt) : So K ca W ρx nE embB out D' G H F M :=
  ⟨fun z => h.nb (by rw [z]; rfl), fun s => s.elim, fun s z => by rw [e1]; exact h.bk s (by rw [z]; rfl), fun s z => by rw [e2]; exact h.ct s (by rw [z]; rfl), fun r z => by rw [e3]; exact h.rt r (by rw [z]; rfl), fun c z => h.ex c (by rw [z]; rfl), fun c os z => h.ra c os (by rw [z]; rfl)⟩
theorem s_ifx {MA : Res (Out Empty B T)} {M : Res (Out S B T)} {nE : Empty → Env} (hc : PT X c (tB X.K ca W ρ mc)) (le : Env.le ρx.e ρ) (ha : PSs X sa (tS X.K ca W ρx nE embB out ρ MA)) (h : PSs X rest (tS X.K ca W ρx emb embB out ρ M)) :
    PSs X (.If c sa [] pos :: rest) (tS X.K ca W ρx emb embB out ρ (mc >>= fun b => if b then Res.up MA else M)) :=
  PSs.of (pss_cons (ps_if hc ha pss_nil) h) fun D σ H ⟨G, f, E, hq⟩ => ⟨H, G, hq.expr E le fun b G1 H1 eb g E1 h1 => by
    cases b with
    | true => exact ⟨G1, f, E1, So.down h1 rfl rfl rfl⟩
    | false => exact ⟨G1, f, E1, h1⟩⟩
theorem s_ret {embB : B → Env} (he : PE X e (tD X.K ca W ρ ma)) (le : Env.le ρx.e ρ) : PS X (.Return (some e) pos) (tS X.K ca W ρx emb embB (rtO X.K ca O.d) ρ (ma >>= fun a => .ok (.rt a))) :=
  PS.of (ps_ret he) fun D σ H ⟨G, f, E, hq⟩ => ⟨H, G, hq.expr E le fun a G1 H1 ea g E1 h1 v rv => h1.rt a rfl v G1 H1 none_ ((Evo.refl E1.sub).less fun x z => z.elim) ⟨.d rv, fun x z => z.elim⟩⟩
theorem a42 {k : Res (Out S B T)} (he : PE X e (tD X.K ca W ρ ma)) (le : Env.le ρx.e ρ) (h : PSs X rest (tS X.K ca W ρx emb embB out ρ k)) (hs : swapsWith e none pos.line X.env = pure false := by rfl) :
    PSs X (.Expr e pos :: rest) (tS X.K ca W ρx emb embB out ρ (ma >>= fun _ => k)) :=
  PSs.of (pss_cons (ps_expr he hs) h) fun D σ H ⟨G, f, E, hq⟩ => ⟨H, G, hq.expr E le fun a G1 H1 ea g E1 h1 v rv => ⟨G1, f, E1, h1⟩⟩
theorem a32 {cx : Nat} {x : Expr} (hc : X.calm = true) (tk : Takes X W) (hm : PMk X x (fun _ H Q => Q (.ref (ca cx)) none H)) (le : Env.le ρx.e ρ) : PS X (.Raise (some x) none pos) (tS X.K ca W ρx emb embB out ρ (.exc cx)) :=
  PS.of (ps_raise hc tk hm) fun D σ H ⟨G, f, E, hq⟩ => hq.ex cx rfl σ G H f (.refl E.sub) (E.weak le)
end
end Lk
namespace Lk
open PySem PySem.Spec PyProof.Rows L2
structure Wk (K : PySem.W.Frag) (ca : CA) (J : It) (G0 : Hp) (xs : List D) : Prop where
  go : ∀ i H, Same G0 H → i < xs.length → J.go i H
  stop : ∀ i H, Same G0 H → i = xs.length → J.stop i H
  yld : ∀ i Hb G H x H', Same G0 G → Fr' Hb H → Sub G H → i < xs.length → J.yld i H x H' → ∃ d G', xs[i]? = some d ∧ Gb Hb G H G' H' ∧ R K ca G' x d
def tIt (K : PySem.W.Frag) (ca : CA) (W : WX) (ρ : Env) (m : Res (List D)) : TI := fun σ H Rq => ∃ Hb G, Cr K ca W ρ σ Hb G H m fun xs G' H' => ∀ J, Wk K ca J G' xs → Rq J H'
theorem PI.of {X : Cx} {tg e : Expr} {t t' : TI} (h : PI X tg e t) (k : ∀ σ H Q, t' σ H Q → t σ H Q) : PI X tg e t' := ⟨fun pins s σ H Q I q => h.run pins s σ H Q I (k σ H Q q)⟩
theorem PI.two {X : Cx} {tg e : Expr} {t t' : TI} (h : PI X tg e t) (h' : PI X tg e t') : PI X tg e (fun σ H Q => t σ H Q ∨ t' σ H Q) := ⟨fun pins s σ H Q I q => q.elim (h.run pins s σ H Q I) (h'.run pins s σ H Q I)⟩
def D.seq : D → Res (List D)
  | .lst xs => .ok xs
  | .tup xs => .ok xs
  | .str z => .ok (z.cps.toList.map fun c => .str ⟨#[c]⟩)
  | _ => .bug
@[simp] theorem a33 (xs : List D) : D.seq (.lst xs) = .ok xs := rfl
@[simp] theorem a88 (xs : List D) : D.seq (.tup xs) = .ok xs := rfl
@[simp] theorem a89 (z : Str) : D.seq (.str z) = .ok (z.cps.toList.map fun c => .str ⟨#[c]⟩) := rfl
def a0u (lo : Int) (n : Nat) : List D := (List.range n).map fun (k : Nat) => .int (lo + (k : Int))
@[simp] theorem a0j (lo : Int) (n : Nat) : (a0u lo n).length = n := by simp [a0u]
def inB (i : Int) : Bool := decide (-(4611686018427387904) ≤ i ∧ i < 4611686018427387904)
def D.range1 : List D → Res (List D) := one fun
  | .int j => if inB j = true then .ok (a0u 0 j.toNat) else .bug
  | _ => .bug
def downD (i : Int) (n : Nat) : List D := (List.range n).map fun (k : Nat) => .int (i + (k : Int) * -1)
@[simp] theorem a3l (lo : Int) (n : Nat) : (downD lo n).length = n := by simp [downD]
def stepD (i c : Int) (n : Nat) : List D := (List.range n).map fun (k : Nat) => .int (i + (k : Int) * c)
@[simp] theorem a3m (lo c : Int) (n : Nat) : (stepD lo c n).length = n := by simp [stepD]
theorem a2q {j : Int} (h : inB j = true) : D.range1 [.int j] = .ok (a0u 0 j.toNat) := if_pos h
section
variable {K : PySem.W.Frag} {ca : CA}
theorem a34 {G : Hp} {a : Addr} {vs : List V} {xs : List D} (h : SqL K G a vs) (r : RL K ca G vs xs) : Wk K ca (Itl K a) G xs where
  go := fun i H s hi => ⟨vs, vs[i]'(by rw [r.length]; exact hi), Same.sqL s h, by simp⟩
  stop := fun i H s hi => ⟨vs, Same.sqL s h, by rw [r.length]; omega⟩
  yld := fun i Hb G1 H x H' s1 sb s hi ⟨e, q⟩ => by
    subst e
    obtain ⟨d, q1, q2⟩ := r.get' (q vs (Same.sqL (s1.trans s) h))
    exact ⟨d, G1, q1, .refl s, q2.mono s1⟩
theorem a43 {G : Hp} {a : Addr} {vs : List V} {xs : List D} (h : SqT K G a vs) (r : RL K ca G vs xs) : Wk K ca (Itt K a) G xs where
  go := fun i H s hi => ⟨vs, vs[i]'(by rw [r.length]; exact hi), Same.sqT s h, by simp⟩
  stop := fun i H s hi => ⟨vs, Same.sqT s h, by rw [r.length]; omega⟩
  yld := fun i Hb G1 H x H' s1 sb s hi ⟨e, q⟩ => by
    subst e
    obtain ⟨d, q1, q2⟩ := r.get' (q vs (Same.sqT (s1.trans s) h))
    exact ⟨d, G1, q1, .refl s, q2.mono s1⟩
theorem a44 {G : Hp} {z : Str} : Wk K ca (Its z) G (z.cps.toList.map fun c => .str ⟨#[c]⟩) where
  go := fun i H s hi => by
    rw [List.length_map, Array.length_toList] at hi
    exact hi
  stop := fun i H s hi => by
    rw [List.length_map, Array.length_toList] at hi
    exact Nat.le_of_eq hi.symm
  yld := fun i Hb G1 H x H' s1 sb s hi ⟨e, c, q1, q2⟩ => by
    subst e q2
    refine ⟨.str ⟨#[c]⟩, G1, ?_, .refl s, .str _⟩
    rw [List.getElem?_map, Array.getElem?_toList, q1]
    rfl
theorem a27 {G : Hp} {lo : Int} {n : Nat} : Wk K ca (Itr lo n) G (a0u lo n) where
  go := fun i H s hi => by rwa [a0j] at hi
  stop := fun i H s hi => by rw [a0j] at hi; exact Nat.le_of_eq hi.symm
  yld := fun i Hb G1 H x H' s1 sb s hi ⟨e, q⟩ => by
    subst e q
    rw [a0j] at hi
    refine ⟨.int (lo + i), G1, ?_, .refl s, .int _⟩
    simp [a0u, hi]
def enumD (xs : List D) : List D := (List.range xs.length).zipWith (fun (k : Nat) x => .tup [.int (k : Int), x]) xs
end
section
variable {X : Cx} {ca : CA} {W : WX} {ρ : Env} {tg e : Expr} {ma : Res D} {mas : Res (List D)} {p pos : Pos} {es : List Expr} {a b c : Expr}
theorem i_seq (he : PE X e (tD X.K ca W ρ ma)) : PI X tg e (tIt X.K ca W ρ (ma >>= fun x => D.seq x)) :=
  PI.of (PI.two (pi_list he) (PI.two (pi_tup he) (pi_str he))) fun σ H Q ⟨Hb, G, h⟩ => by
    -- the value's kind is known by the result
    cases hm : ma with
    | bug => exact (h.nb (by rw [hm]; rfl)).elim
    | exc k =>
      subst hm
      exact .inl ⟨Hb, G, h.cut fun x G1 H1 ex => by cases ex⟩
    | ok x =>
      subst hm
      cases x with
      | lst xs => exact .inl ⟨Hb, G, h.cut fun y G1 H1 ey g1 h1 v rv => by
          cases ey
          cases rv with
          | lst q1 q2 => exact ⟨_, rfl, ⟨_, Same.sqL h1.sub q1⟩, h1.done _ (a34 q1 q2)⟩⟩
      | tup xs => exact .inr (.inl ⟨Hb, G, h.cut fun y G1 H1 ey g1 h1 v rv => by
          cases ey
          cases rv with
          | tup q1 q2 => exact ⟨_, rfl, ⟨_, Same.sqT h1.sub q1⟩, h1.done _ (a43 q1 q2)⟩⟩)
      | str z => exact .inr (.inr ⟨Hb, G, h.cut fun y G1 H1 ey g1 h1 v rv => by
          cases ey
          cases rv
          exact ⟨z, rfl, h1.done _ a44⟩⟩)
      | _ => exact (h.nb rfl).elim
theorem a45 {i : Int} (h : inB i = true) : -(2 ^ 62) ≤ i ∧ i < 2 ^ 62 := by
  have q := of_decide_eq_true h
  omega
theorem a16 (hg : Gl X "range") (hm : X.mg "range" = none) (ha : PA X [a] (tArg X.K ca W ρ mas)) (hs : starEach [a] X.env = [(false, eval a X.env)] := by rfl) :
    PI X tg (.Call (.Name "range" p) [a] [] pos) (tIt X.K ca W ρ (mas >>= fun xs => D.range1 xs)) :=
  PI.of (pi_range1 hg hm ha hs) fun σ H Q ⟨Hb, G, h⟩ => ⟨Hb, G, h.cut fun xs G1 H1 _ g1 h1 vs rvs => by
    obtain ⟨x, v, rfl, rfl, r1⟩ := RL.one h1.nb rvs
    cases x with
    | int j =>
      cases r1
      by_cases hc : inB j = true
      · have := a45 hc
        exact ⟨j, rfl, by omega, by omega, h1.ok _ (if_pos hc) _ _ (.refl h1.sub) _ a27⟩
      · exact (h1.nb (if_neg hc)).elim
    | _ => exact (h1.nb rfl).elim⟩
def D.enum : List D → Res (List D) := one fun
  | .lst xs => .ok (enumD xs)
  | _ => .bug
@[simp] theorem a7x (xs : List D) : D.enum [.lst xs] = .ok (enumD xs) := rfl
end
def loopR {S B T : Type} (step : S → D → Res (Out S S T)) : List D → S → Res (Out S B T)
  | [], s => .ok (.nx s)
  | x :: xs, s => step s x >>= fun
    | .nx s' => loopR step xs s'
    | .ct s' => loopR step xs s'
    | .bk s' => .ok (.nx s')
    | .rt r => .ok (.rt r)
    | .ra c os => .ok (.ra c os)
@[simp] theorem a46 {S B T : Type} (step : S → D → Res (Out S S T)) (s : S) : (loopR step [] s : Res (Out S B T)) = .ok (.nx s) := rfl
section
variable {X : Cx} {ca : CA} {S B T : Type} {W : WX} {ρ : Env} {ρx : EX} {emb : S → Env} {embB : B → Env} {out : T → RtP} {tg iter : Expr} {body rest : List Stmt} {pos : Pos} {mi : Res (List D)} {step : S → D → Res (Out S S T)} {s0 : S}
theorem s_for {g : TG} {tb : TS} (hp : PassesOwn (model X.prog X.w) X.A X.env X.xe) (hc : X.calm = true) (hi : PI X tg iter (tIt X.K ca W ρ mi)) (hg : PG X tg g) (hb : PSs X body tb) (le : Env.le ρx.e ρ) (le0 : Env.le (emb s0) ρ)
    (turn : ∀ (s : S) (x : D) (D : Ends) (G H : Hp) (σ : L2.St) (f : Nat → AS) (v : V), EnvOk X.K ca G H σ (emb s) f → R X.K ca G v x → So X.K ca W ρx emb emb out D G H (All f) (step s x) → g v σ H fun σ2 H2 => tb D σ2 H2)
    (hs : ∀ x, foldedSetIterable iter X.env x = pure x := by intro _; rfl) : PS X (.For tg iter body [] pos) (tS X.K ca W ρx emb embB out ρ (mi >>= fun xs => loopR step xs s0)) :=
  PS.of (ps_for hp hc hi hg hb hs) fun D0 σ H ⟨G, f, E, hq⟩ => ⟨H, G, hq.expr E le fun xs G1 H1 ex g1 E1 h1 J wk => by
    refine ⟨fun i m σ' H' => m = xs.length - i ∧ i ≤ xs.length ∧ ∃ s G' f', EnvOk X.K ca G' H' σ' (emb s) f' ∧ Same G1 G' ∧ So X.K ca W ρx emb embB out D0 G' H' (All f') (loopR step (xs.drop i) s),
      ⟨xs.length, rfl, Nat.zero_le _, s0, G1, f, E1.weak le0, Same.refl _, h1⟩, ?_⟩
    rintro i m σ' H' ⟨rfl, hi', s, G', f', E', sG, hq'⟩
    by_cases hlt : i < xs.length
    · refine .inr ⟨wk.go i H' (sG.trans E'.sub) hlt, fun σ2 H2 => ∃ s2 G2 f2, EnvOk X.K ca G2 H2 σ2 (emb s2) f2 ∧ Same G1 G2 ∧ So X.K ca W ρx emb embB out D0 G2 H2 (All f2) (loopR step (xs.drop (i + 1)) s2), fun σ2 H2 n2 => ⟨xs.length - (i + 1), by omega, rfl, hlt, n2⟩, fun v H2 y => ?_⟩
      obtain ⟨d, G2, e1, gb, rv⟩ := wk.yld i H' G' H' v H2 sG (Fr'.refl _) E'.sub hlt y
      have hf : ∀ i a, f' i a → ∃ u, H' a = some u := fun i a q => (E'.out i a q).2
      have E2 := E'.gb hf gb
      have ed : xs.drop i = d :: xs.drop (i + 1) := by
        rw [List.drop_eq_getElem_cons hlt]
        have := (List.getElem?_eq_some_iff.mp e1).2
        rw [this]
      rw [ed] at hq'
      have hq2 := hq'.on (Evo.of_grow gb.grow : Evo G' H' (All f') G2 H2 (All f'))
      refine turn s d _ G2 H2 σ' f' v E2 rv ⟨fun z => hq2.nb (by simp only [loopR, z]; rfl), fun s2 z σ3 G3 H3 f3 v3 E3 => ?_, fun s2 z σ3 G3 H3 f3 v3 E3 => ?_, fun s2 z σ3 G3 H3 f3 v3 E3 => ?_, fun r z => hq2.rt r (by simp only [loopR, z]; rfl), fun c z => hq2.ex c (by simp only [loopR, z]; rfl), fun c os z => hq2.ra c os (by simp only [loopR, z]; rfl)⟩
      · exact ⟨s2, G3, f3, E3, (sG.trans gb.g).trans v3.g, So.step (m := step s d) (a := .nx s2) hq2 z v3⟩
      · exact hq2.nx s2 (by simp only [loopR, z]; rfl) σ3 G3 H3 f3 v3 E3
      · exact ⟨s2, G3, f3, E3, (sG.trans gb.g).trans v3.g, So.step (m := step s d) (a := .ct s2) hq2 z v3⟩
    · have ei : i = xs.length := by omega
      refine .inl ⟨wk.stop i H' (sG.trans E'.sub) ei, ?_⟩
      have ed : xs.drop i = [] := by rw [ei]; exact List.drop_length
      rw [ed] at hq'
      exact hq'.nx s rfl σ' G' H' f' (.refl E'.sub) E'⟩
theorem a3n {i : Nat} {n : Str} {p : Pos} (hp : PassesOwn (model X.prog X.w) X.A X.env X.xe) (hc : X.calm = true) (hi : PI X (.Name n p) iter (tIt X.K ca W ρ mi)) (hN : X.N.Nodup) (hn : X.N[i]? = some n) (hx : Loc X.env.scope n) (le : Env.le ρx.e ρ) (le0 : Env.le (emb s0) ρ)
    (hb : ∀ s x, PSs X body (tS X.K ca W ρx emb emb out ((emb s).set i (some (.d x))) (step s x)))
    (hs : ∀ x, foldedSetIterable iter X.env x = pure x := by intro _; rfl) (hf : X.fn n = true ∨ X.env.scope.names.lookup n = some .local := by first | exact .inl rfl | exact .inr rfl | assumption) :
    PS X (.For (.Name n p) iter body [] pos) (tS X.K ca W ρx emb embB out ρ (mi >>= fun xs => loopR step xs s0)) := by
  refine s_for (g := gName i) (tb := fun D σ H => ∃ s x σ0 v G f, σ = σ0.set i (some v) ∧ EnvOk X.K ca G H σ0 (emb s) f ∧ R X.K ca G v x ∧ So X.K ca W ρx emb emb out D G H (All f) (step s x)) hp hc hi (pg_name hN hn hx hf) ?_ le le0 (fun s x D G H σ f v E r h => ⟨s, x, σ, v, G, f, rfl, E, r, h⟩) hs
  refine ⟨fun pins s0 σ H D I ⟨s, x, σ0, v, G, f, es, E, r, h⟩ => (hb s x).run pins s0 σ H D I ?_⟩
  subst es
  have hl := I.len
  rw [List.length_set] at hl
  have hiσ : i < σ0.length := by rw [hl]; exact (List.getElem?_eq_some_iff.mp hn).1
  exact ⟨G, _, E.put hiσ r, h.on ((Evo.refl E.sub).less fun x z => (a0k z).elim False.elim id)⟩
def un2 {α : Type} (f : D → D → Res α) : D → Res α
  | .tup [a, b] => f a b
  | _ => .bug
def un3 {α : Type} (f : D → D → D → Res α) : D → Res α
  | .tup [a, b, c] => f a b c
  | _ => .bug
@[simp] theorem b0u {α : Type} (f : D → D → Res α) (a b : D) : un2 f (.tup [a, b]) = f a b := rfl
@[simp] theorem b0v {α : Type} (f : D → D → D → Res α) (a b c : D) : un3 f (.tup [a, b, c]) = f a b c := rfl
theorem a35 {α : Type} {f : D → D → D → Res α} {x : D} (h : un3 f x ≠ .bug) : ∃ a b c, x = .tup [a, b, c] := by
  unfold un3 at h
  split at h
  · exact ⟨_, _, _, rfl⟩
  · exact (h rfl).elim
theorem a36 {step : S → D → D → D → Res (Out S S T)} {i j l : Nat} {n m o : Str} {p q u t : Pos} {kk : Nat} (hp : PassesOwn (model X.prog X.w) X.A X.env X.xe) (hc : X.calm = true) (hi : PI X (.Tuple [.Name n p, .Name m q, .Name o u] kk t) iter (tIt X.K ca W ρ mi)) (hN : X.N.Nodup)
    (hn : X.N[i]? = some n) (hx : Loc X.env.scope n) (hm : X.N[j]? = some m) (hy : Loc X.env.scope m) (ho : X.N[l]? = some o) (hz : Loc X.env.scope o) (le : Env.le ρx.e ρ) (le0 : Env.le (emb s0) ρ)
    (hb : ∀ s x y z, PSs X body (tS X.K ca W ρx emb emb out ((((emb s).set i (some (.d x))).set j (some (.d y))).set l (some (.d z))) (step s x y z)))
    (hs : ∀ x, foldedSetIterable iter X.env x = pure x := by intro _; rfl) (hf : X.fn n = true ∨ X.env.scope.names.lookup n = some .local := by first | exact .inl rfl | exact .inr rfl | assumption)
    (hf2 : X.fn m = true ∨ X.env.scope.names.lookup m = some .local := by first | exact .inl rfl | exact .inr rfl | assumption) (hf3 : X.fn o = true ∨ X.env.scope.names.lookup o = some .local := by first | exact .inl rfl | exact .inr rfl | assumption) :
    PS X (.For (.Tuple [.Name n p, .Name m q, .Name o u] kk t) iter body [] pos) (tS X.K ca W ρx emb embB out ρ (mi >>= fun xs => loopR (fun s => un3 (step s)) xs s0)) := by
  refine s_for (g := gTup X.K 3 (gCons (gName i) (gCons (gName j) (gCons (gName l) gNil)))) (tb := fun D σ H => ∃ s x y z σ0 v w w2 G f, σ = ((σ0.set i (some v)).set j (some w)).set l (some w2) ∧ EnvOk X.K ca G H σ0 (emb s) f ∧ R X.K ca G v x ∧ R X.K ca G w y ∧ R X.K ca G w2 z ∧ So X.K ca W ρx emb emb out D G H (All f) (step s x y z)) hp hc hi
    (pg_tup hc (pgs_cons (pg_name hN hn hx hf) (pgs_cons (pg_name hN hm hy hf2) (pgs_cons (pg_name hN ho hz hf3) pgs_nil)))) ?_ le le0 (fun s x D G H σ f v E r h => ?_) hs
  · refine ⟨fun pins s0 σ H D I ⟨s, x, y, z, σ0, v, w, w2, G, f, es, E, r, r2, r3, h⟩ => (hb s x y z).run pins s0 σ H D I ?_⟩
    subst es
    have hl := I.len
    rw [List.length_set, List.length_set, List.length_set] at hl
    have hiσ : i < σ0.length := by rw [hl]; exact (List.getElem?_eq_some_iff.mp hn).1
    have hjσ : j < (σ0.set i (some v)).length := by rw [List.length_set, hl]; exact (List.getElem?_eq_some_iff.mp hm).1
    have hlσ : l < ((σ0.set i (some v)).set j (some w)).length := by rw [List.length_set, List.length_set, hl]; exact (List.getElem?_eq_some_iff.mp ho).1
    have E1 := ((E.put hiσ r).put hjσ r2).put hlσ r3
    exact ⟨G, _, E1, h.on ((Evo.refl E.sub).less fun x z => (a0k z).elim False.elim fun z => (a0k z).elim False.elim fun z => (a0k z).elim False.elim id)⟩
  · obtain ⟨a, b, c, rfl⟩ := a35 h.nb
    cases r with
    | tup q1 q2 =>
      cases q2 with
      | cons r1 q2 => cases q2 with
        | cons r2 q2 => cases q2 with
          | cons r3 q2 =>
            cases q2
            exact ⟨_, _, rfl, Same.sqT E.sub q1, rfl, _, _, rfl, _, _, rfl, _, _, rfl, rfl, s, a, b, c, σ, _, _, _, G, f, rfl, E, r1, r2, r3, h⟩
theorem _root_.L2.PT.any {X : Cx} {ι : Type} {e : Expr} {t : ι → TT} (h : ∀ i, PT X e (t i)) : PT X e (fun σ H Q => ∃ i, t i σ H Q) := ⟨fun pins s σ H Q I ⟨i, q⟩ => (h i).run pins s σ H Q I q⟩
end
end Lk
namespace Lk
open PySem PySem.Spec PyProof.Rows L2
variable {Fl : Program → World → CXT}
def Res.nox {α : Type} : Res α → Res α
  | .ok a => .ok a
  | _ => .bug
@[simp] theorem b0w {α : Type} (a : α) : Res.nox (.ok a) = .ok a := rfl
@[simp] theorem a9a {α : Type} : Res.nox (.bug : Res α) = .bug := rfl
def compR (F : D → Res (Option D)) : List D → Res (List D)
  | [] => .ok []
  | x :: xs => Res.nox (F x) >>= fun o => compR F xs >>= fun ys => .ok (match o with | some y => y :: ys | none => ys)
def mapR (F : D → Res D) : List D → Res (List D)
  | [] => .ok []
  | x :: xs => Res.nox (F x) >>= fun y => mapR F xs >>= fun ys => .ok (y :: ys)
@[simp] theorem a47 (F : D → Res (Option D)) : compR F [] = .ok [] := rfl
@[simp] theorem a7y (F : D → Res D) : mapR F [] = .ok [] := rfl
theorem a17 {F : D → Res (Option D)} : ∀ {xs : List D}, compR F xs ≠ .bug → ∃ ys, compR F xs = .ok ys
  | [], _ => ⟨[], rfl⟩
  | x :: xs, h => by
    cases e : Res.nox (F x) with
    | bug => exact (h (by simp only [compR, e]; rfl)).elim
    | exc c => cases q : F x <;> rw [q] at e <;> cases e
    | ok o =>
      obtain ⟨ys, q⟩ := a17 (F := F) (xs := xs) (fun z => h (by simp only [compR, e, z]; rfl))
      exact ⟨_, by simp only [compR, e, q]; rfl⟩
def a1n (xs : List D) : Res (List D) := if xs.length ≤ 100000 then .ok xs else .bug
theorem a2r {xs : List D} (h : xs.length ≤ 100000) : a1n xs = .ok xs := if_pos h
theorem a1j {σ : L2.St} {i : Nat} : ∀ {vs : List Nat}, i ∉ vs → (wipe σ vs)[i]? = σ[i]?
  | [], _ => rfl
  | v :: vs, h => by
    unfold wipe
    rw [List.getElem?_set_ne (fun e => h (by rw [e]; exact List.mem_cons_self))]
    exact a1j fun z => h (List.mem_cons_of_mem _ z)
theorem a10 {σ : L2.St} {i : Nat} : ∀ {vs : List Nat}, i ∈ vs → (wipe σ vs)[i]? = if i < σ.length then some none else none
  | v :: vs, h => by
    unfold wipe
    by_cases e : v = i
    · subst e
      rw [List.getElem?_set]
      simp [wipe_length]
    · rw [List.getElem?_set_ne e]
      exact a10 ((List.mem_cons.mp h).resolve_left (Ne.symm e))
theorem a37 {σ τ : L2.St} {vs : List Nat} (hl : τ.length = σ.length) (h : ∀ i, i ∉ vs → τ[i]? = (wipe σ vs)[i]?) : wipe τ vs = wipe σ vs := by
  refine List.ext_getElem? fun i => ?_
  by_cases hi : i ∈ vs
  · rw [a10 hi, a10 hi, hl]
  · rw [a1j hi, h i hi]
def a0v (ρ : Env) (vs : List Nat) : Bool := vs.all fun j => match ρ[j]? with | some (some _) => false | _ => true
theorem a07 {ρ : Env} {vs : List Nat} (h : a0v ρ vs = true) {i : Nat} {o : O} (e : ρ[i]? = some (some o)) : i ∉ vs := fun hi => by
  have q := List.all_eq_true.mp h i hi
  simp only [e] at q
  cases q
section
variable {X : Cx} {ca : CA} {W : WX} {ρ : Env} {tg iter elt : Expr} {ifs : List Expr} {scope : Scope} {own : List (Str × Nat)} {pos : Pos} {mi : Res (List D)} {F : D → Res (Option D)}
abbrev W0 : WX := fun _ _ _ _ => False
theorem EnvOk.wiped {K : PySem.W.Frag} {G H : Hp} {σ : L2.St} {f : Nat → AS} {vs : List Nat} (E : EnvOk K ca G H σ ρ f) (hc : a0v ρ vs = true) : EnvOk K ca G H (wipe σ vs) ρ f :=
  ⟨E.sub, fun i o h => by
    obtain ⟨v, q1, q2⟩ := E.slot i o h
    exact ⟨v, by rw [a1j (a07 hc h)]; exact q1, q2⟩, E.sep, E.out⟩
def a3o (X : Cx) (ca : CA) (ρ : Env) (vs : List Nat) (g : TG) (tt : TT) (te : TE) (F : D → Res (Option D)) : Prop :=
  ∀ (σ : L2.St) (x : D) (G H : Hp) (f : Nat → AS) (v : V) (Ky : V → Hp → Prop) (Kn : Hp → Prop), σ.length = X.N.length → EnvOk X.K ca G H (wipe σ vs) ρ f → R X.K ca G v x → Res.nox (F x) ≠ .bug →
    (∀ y G' H', Res.nox (F x) = .ok (some y) → Gb H G H G' H' → ∀ w, R X.K ca G' w y → Ky w H') → (∀ G' H', Res.nox (F x) = .ok none → Gb H G H G' H' → Kn H') →
    g v (wipe σ vs) H fun σ2 H2 => wipe σ2 vs = wipe σ vs ∧ tt σ2 H2 fun b H3 => if b = true then te σ2 H3 fun y H4 => Ky y H4 else Kn H3
theorem a38 {g : TG} {tt : TT} {te : TE} {vs : List Nat} {ρi : Env} (lei : Env.le ρi ρ) (tn : a3o X ca ρi vs g tt te F) (hc : a0v ρi vs = true) {σ : L2.St} {H : Hp} {Q : VK} (hl : σ.length = X.N.length)
    (hq : tL X.K ca W ρ (mi >>= fun xs => a1n xs >>= fun xs => compR F xs) σ H Q) : tLc (tIt X.K ca W ρ mi) g tt te vs σ H Q := by
  obtain ⟨Hb, G, h⟩ := hq
  refine ⟨Hb, G, h.cut fun xs G1 H1 ex g1 h1 J wk Dd hD => ?_⟩
  have hz : xs.length ≤ 100000 := by
    by_cases hz : xs.length ≤ 100000
    · exact hz
    · exact (h1.nb (by unfold a1n; rw [if_neg hz]; rfl)).elim
  rw [a2r hz] at h1
  obtain ⟨ys, ey⟩ := a17 h1.nb
  obtain ⟨f, E, hf⟩ := h1.env
  have gD : G1 Dd = none := h1.sub.free hD
  refine ⟨fun i m H' => m = xs.length - i ∧ i ≤ xs.length ∧ ∃ G' acc rest us, Gb Hb G1 H1 G' H' ∧ compR F (xs.drop i) = .ok rest ∧ acc ++ rest = ys ∧ acc.length ≤ i ∧ H' Dd = some (.lst us) ∧ RL X.K ca G' us acc ∧ G' Dd = none,
    ⟨xs.length, rfl, Nat.zero_le _, G1, [], ys, [], Gb.own h1.sub hD, ey, rfl, Nat.le_refl _, upd_same, .nil, gD⟩, ?_⟩
  rintro i m H' ⟨rfl, hi, G', acc, rest, us, gb, er, ea, la, hu, rl, gd⟩
  by_cases hlt : i < xs.length
  · refine .inr ⟨wk.go i H' (gb.g.trans gb.sub) hlt, fun H'' => i + 1 ≤ xs.length ∧ ∃ G' acc rest us, Gb Hb G1 H1 G' H'' ∧ compR F (xs.drop (i + 1)) = .ok rest ∧ acc ++ rest = ys ∧ acc.length ≤ i + 1 ∧ H'' Dd = some (.lst us) ∧ RL X.K ca G' us acc ∧ G' Dd = none,
      fun H'' n => ⟨xs.length - (i + 1), by omega, rfl, n.1, n.2⟩, fun v H2 y => ?_⟩
    obtain ⟨d, G2, e1, gb2, rv⟩ := wk.yld i H' G' H' v H2 gb.g (Fr'.refl _) gb.sub hlt y
    have sb' : Fr' Hb H' := h1.sb.trans gb.h.fr
    have gb2' : Gb Hb G' H' G2 H2 := Gb.of sb' gb2.grow
    have E2 : EnvOk X.K ca G2 H2 σ ρi f := (E.gb hf (gb.trans gb2')).weak lei
    have ed : xs.drop i = d :: xs.drop (i + 1) := by
      rw [List.drop_eq_getElem_cons hlt]
      have := (List.getElem?_eq_some_iff.mp e1).2
      rw [this]
    rw [ed] at er
    have gd2 : G2 Dd = none := by
      cases q : G2 Dd with
      | none => rfl
      | some o =>
        rcases gb2.new Dd o q with z | z
        · rw [gd] at z; cases z
        · rw [hu] at z; cases z
    have nb : Res.nox (F d) ≠ .bug := fun z => by
      simp only [compR, z] at er
      cases er
    refine tn σ d G2 H2 f v _ _ hl (E2.wiped hc) rv nb (fun y G3 H3 ef gb3 w rw' => ?_) (fun G3 H3 ef gb3 => ?_)
    · simp only [compR, ef] at er
      cases q : compR F (xs.drop (i + 1)) with
      | bug => rw [q] at er; cases er
      | exc c => rw [q] at er; cases er
      | ok r2 =>
        rw [q] at er
        have er' : y :: r2 = rest := Res.ok.inj er
        subst er'
        have hu3 : H3 Dd = some (.lst us) := gb3.h.lst (gb2.h.lst hu)
        have gd3 : G3 Dd = none := by
          cases q : G3 Dd with
          | none => rfl
          | some o =>
            rcases gb3.new Dd o q with z | z
            · rw [gd2] at z; cases z
            · rw [gb2.h.lst hu] at z; cases z
        have gb4 : Gb Hb G1 H1 G3 H3 := (gb.trans gb2').trans (Gb.of (sb'.trans gb2.h.fr) gb3.grow)
        refine ⟨us, hu3, Nat.lt_of_le_of_lt (by rw [rl.length]; omega) (Nat.lt_of_lt_of_le (by omega : xs.length < 100001) (by decide)), hlt, G3, acc ++ [y], r2, us ++ [w], ?_, rfl, by rw [← ea, List.append_assoc]; rfl, by rw [List.length_append, List.length_singleton]; omega, upd_same, (rl.mono (gb2.g.trans gb3.g)).append (.cons rw' .nil), gd3⟩
        refine ⟨gb4.g, ⟨fun a u z => ?_, gb4.sub.n⟩, gb4.h.upd hD hu3 a0m, gb4.new⟩
        rw [upd_ne (ne_of_none z gd3)]; exact gb4.sub a u z
    · simp only [compR, ef] at er
      cases q : compR F (xs.drop (i + 1)) with
      | bug => rw [q] at er; cases er
      | exc c => rw [q] at er; cases er
      | ok r2 =>
        rw [q] at er
        have er' : r2 = rest := Res.ok.inj er
        subst er'
        have gd3 : G3 Dd = none := by
          cases q : G3 Dd with
          | none => rfl
          | some o =>
            rcases gb3.new Dd o q with z | z
            · rw [gd2] at z; cases z
            · rw [gb2.h.lst hu] at z; cases z
        exact ⟨hlt, G3, acc, r2, us, (gb.trans gb2').trans (Gb.of (sb'.trans gb2.h.fr) gb3.grow), rfl, ea, by omega, gb3.h.lst (gb2.h.lst hu), rl.mono (gb2.g.trans gb3.g), gd3⟩
  · have ei : i = xs.length := by omega
    refine .inl ⟨wk.stop i H' (gb.g.trans gb.sub) ei, ?_⟩
    have ed : xs.drop i = [] := by rw [ei]; exact List.drop_length
    rw [ed] at er
    have er' : [] = rest := Res.ok.inj er
    subst er'
    rw [List.append_nil] at ea
    subst ea
    exact h1.ok acc ey G' H' gb Dd us (h1.sb.free hD) gd hu rl
variable {i : Nat} {n y : Str} {p : Pos} {mt : D → Res Bool} {me : D → Res D} {j : Nat}
def lcF (mt : D → Res Bool) (me : D → Res D) : D → Res (Option D) := fun x => mt x >>= fun b => if b then me x >>= fun y => .ok (some y) else .ok none
theorem turnN (hi : i < X.N.length) {vs : List Nat} (hv : i ∈ vs) : a3o X ca ρ vs (gName i) (fun σ H Q => ∃ x, tB X.K ca W0 (ρ.set i (some (.d x))) (mt x) σ H Q) (fun σ H Q => ∃ x, tD X.K ca W0 (ρ.set i (some (.d x))) (me x) σ H Q) (lcF mt me) := by
  intro σ x G H f v Ky Kn hl E r nb ky kn
  have hiσ : i < (wipe σ vs).length := by rw [wipe_length, hl]; exact hi
  have E1 := E.put hiσ r
  have hf : ∀ k a, (if k = i then none_ else f k) a → ∃ u, H a = some u := fun k a q => (E1.out k a q).2
  refine ⟨a37 (by rw [List.length_set, wipe_length]) fun k hk => by rw [List.getElem?_set_ne (fun e => hk (by rw [← e]; exact hv))], x, H, G, ?_⟩
  have C : Cr X.K ca W0 (ρ.set i (some (.d x))) ((wipe σ vs).set i (some v)) H G H (mt x >>= fun b => if b then me x >>= fun y => .ok (some y) else .ok none) (fun o G' H' => match o with | some y => ∀ w, R X.K ca G' w y → Ky w H' | none => Kn H') := by
    refine ⟨Fr'.refl _, ⟨_, E1, hf⟩, fun e => nb (by unfold lcF; rw [e]; rfl), fun o e G' H' gb => ?_, fun c e => (nb (by unfold lcF; rw [e]; rfl)).elim⟩
    cases o with
    | some y => exact fun w rw' => ky y G' H' (by unfold lcF; rw [e]; rfl) gb w rw'
    | none => exact kn G' H' (by unfold lcF; rw [e]; rfl) gb
  exact C.cut fun b G1 H1 eb g1 h1 => by
    cases b with
    | true => exact ⟨x, H, G1, Cr.cut h1 fun z G2 H2 ez g2 h2 w rw' => h2.done w rw'⟩
    | false => exact h1.done
theorem e_lcN (hc : X.calm = true) (hN : X.N.Nodup) (hi : PI X (.Name n p) iter (tIt X.K ca W ρ mi)) (hn : X.N[i]? = some n) (ok : BlkOk X.N X.env.scope scope own) {ρi : Env} (lei : Env.le ρi ρ) (hcl : a0v ρi (own.map (·.2)) = true) (hv : i ∈ own.map (·.2))
    (hg : ∀ (s : Shared) (H : Hp) (C : Addr) (cl : List (Str × Addr)) (fp : List Addr), PG (X.blk s H scope (compEnvC scope cl C X.env) fp) (.Name n p) (gName i))
    (ht : ∀ (x : D) (s : Shared) (H : Hp) (C : Addr) (cl : List (Str × Addr)) (fp : List Addr), PTs (X.blk s H scope (compEnvC scope cl C X.env) fp) ifs (tB X.K ca W0 (ρi.set i (some (.d x))) (mt x)))
    (he : ∀ (x : D) (s : Shared) (H : Hp) (C : Addr) (cl : List (Str × Addr)) (fp : List Addr), PE (X.blk s H scope (compEnvC scope cl C X.env) fp) elt (tD X.K ca W0 (ρi.set i (some (.d x))) (me x)))
    (hs : ∀ x, foldedSetIterable iter X.env x = pure x := by intro _; rfl) :
    PE X (.ListComp elt [⟨.Name n p, iter, ifs, 0⟩] scope pos) (tL X.K ca W ρ (mi >>= fun xs => a1n xs >>= fun xs => compR (lcF mt me) xs)) := by
  refine ⟨fun pins s σ H Q I h => ?_⟩
  refine (pe_lc (tt := fun σ H Q => ∃ x, tB X.K ca W0 (ρi.set i (some (.d x))) (mt x) σ H Q) (te := fun σ H Q => ∃ x, tD X.K ca W0 (ρi.set i (some (.d x))) (me x) σ H Q) hc hN hi ok hg (fun s H C cl fp => ⟨fun pins s σ H Q I ⟨x, q⟩ => (ht x _ _ C cl fp).run pins s σ H Q I q⟩) (fun s H C cl fp => ⟨fun pins s σ H Q I ⟨x, q⟩ => (he x _ _ C cl fp).run pins s σ H Q I q⟩) hs).run pins s σ H Q I ?_
  exact a38 lei (turnN (List.getElem?_eq_some_iff.mp hn).1 hv) hcl I.len h
theorem a48 : PTs X [] (tB X.K ca W0 ρ (.ok true)) := ⟨fun pins s σ H Q I ⟨Hb, G, h⟩ => pts_nil.run pins s σ H Q I h.done⟩
@[simp] theorem a9b (me : D → Res D) (x : D) : lcF (fun _ => .ok true) me x = (me x >>= fun y => .ok (some y)) := rfl
end
abbrev TkE (Fl : Program → World → CXT) (X : Cx) (W : WX) : Prop := ∀ σ, PassesAt (Fl X.prog X.w) X σ (WE W σ)
def spD (K : PySem.W.Frag) (ca : CA) (F : List D → Res D) : Sp := fun vs H Q E => ∃ G ds, SG ca G H ∧ RL K ca G vs ds ∧ F ds ≠ .bug ∧
  (∀ d, F ds = .ok d → ∀ G' H', Grow G H G' H' → ∀ v, R K ca G' v d → Q v H') ∧ (∀ c, F ds = .exc c → ∀ G' H', Grow G H G' H' → E (.ref (ca c)) none H')
structure Cal (Fl : Program → World → CXT) (P : Program) (w : World) (K : PySem.W.Frag) (mg : Str → Option Value) (base : Heap) (n : Str) (k : Nat) (sp : Sp) (dvs : List V) : Prop where
  ex : ∃ (f : Addr) (fd : FuncData) (ps : List Str) (ds : List Value), FnOk P w K mg base (Fl P w) k f fd ps sp ∧ mg n = some (.ref f) ∧ PySem.W.keepIn K (.ref f) = true ∧ Binds K fd ps ds ∧ Vals dvs ds
theorem Cal.mono {P : Program} {w : World} {K : PySem.W.Frag} {mg : Str → Option Value} {base : Heap} {n : Str} {j k : Nat} {sp : Sp} {dvs : List V} (h : Cal Fl P w K mg base n j sp dvs) (hk : j ≤ k) : Cal Fl P w K mg base n k sp dvs :=
  let ⟨f, fd, ps, ds, a, b⟩ := h.ex
  ⟨f, fd, ps, ds, a.mono hk, b⟩
section
variable {X : Cx} {ca : CA} {W : WX} {ρ : Env} {n : Str} {k : Nat} {sp : Sp} {dvs : List V} {e : Expr} {es : List Expr} {p pos : Pos} {mas : Res (List D)}
def a39 (sp : Sp) (dvs : List V) (E : L2.St → XK) (t : TA) : TE := fun σ H Q => t σ H fun vs H1 => sp (vs ++ dvs) H1 Q (E σ)
theorem a1o {E : L2.St → XK} {t : TA} (c : Cal Fl X.prog X.w X.K X.mg X.base n k sp dvs) (hr : Room k X.A) (hg : Gl X n) (hx : ∀ σ, PassesAt (Fl X.prog X.w) X σ (E σ))
    (ha : PA X (e :: es) t) (hdb : (n == ("__debug__" : Str)) = false := by decide) (he : starEach (e :: es) X.env = (false, eval e X.env) :: starEach es X.env := by rfl) (hpl : (backTo pos (starEach es X.env)).any (·.1) = false := by rfl) :
    PE X (.Call (.Name n p) (e :: es) [] pos) (a39 sp dvs E t) := by
  obtain ⟨f, fd, ps, ds, F, hm, hk, hb, hd⟩ := c.ex
  refine ⟨fun pins s σ H Q I h => ?_⟩
  refine wpAny_Call_Name_kw (ld_glob I hg hm ?_ hdb)
  refine PySem.W.callWith_K (h₀ := X.base) I.ok.mod.kin hk (thn (ha.run pos pins s σ H _ I h) fun us s1 ⟨vs, H1, I1, r, q⟩ => ⟨I1.kIn, ?_⟩) he hpl
  have r2 : Vals (vs ++ dvs) (us ++ ds) := r.append hd
  have hl : (us ++ ds).length = ps.length := by rw [← r2.length]; exact F.len _ _ _ _ q
  refine wpAny_call (codeAny_mono (F.run X.A X.stack s1 H1 ⟨us, []⟩ (us ++ ds) (vs ++ dvs) Q (E σ) hr I1.env0 (hb s1 us I1.kIn hl) r2 q) fun r s' hq => ?_)
  cases r with
  | error e => exact hx σ pins H1 s1 e s' I1 hq
  | ok fl =>
    cases fl with
    | ret u => exact I1.after hq
    | next => exact False.elim hq
    | brk => exact False.elim hq
    | cont => exact False.elim hq
theorem a3p {K : PySem.W.Frag} {Hb G H : Hp} {σ : L2.St} {F : List D → Res D} {ds : List D} {vs : List V} {Q : VK} (h : Cr K ca W ρ σ Hb G H (F ds) fun d G' H' => ∀ v, R K ca G' v d → Q v H') (r : RL K ca G vs ds) : spD K ca F vs H Q (WE W σ) :=
  ⟨G, ds, (let ⟨_, E, _⟩ := h.env; E.sub), r, h.nb, fun d e G' H' g v rv => h.ok d e G' H' (Gb.of h.sb g) v rv, fun c e G' H' g => h.ex c e G' H' (Gb.of h.sb g)⟩
theorem a1p {F : List D → Res D} (c : Cal Fl X.prog X.w X.K X.mg X.base n k (spD X.K ca F) []) (hr : Room k X.A) (hg : Gl X n) (tk : TkE Fl X W) (ha : PA X (e :: es) (tArg X.K ca W ρ mas)) (hdb : (n == ("__debug__" : Str)) = false := by decide)
    (he : starEach (e :: es) X.env = (false, eval e X.env) :: starEach es X.env := by rfl) (hpl : (backTo pos (starEach es X.env)).any (·.1) = false := by rfl) : PE X (.Call (.Name n p) (e :: es) [] pos) (tD X.K ca W ρ (mas >>= fun ds => F ds)) :=
  PE.of (a1o (E := WE W) c hr hg tk ha hdb he hpl) fun σ H Q ⟨Hb, G, h⟩ => ⟨Hb, G, h.cut fun ds G1 H1 _ g1 h1 vs rvs => by
    show spD X.K ca F (vs ++ []) H1 Q (WE W σ)
    rw [List.append_nil]
    exact a3p h1 rvs⟩
theorem a4a {F : List D → Res D} {dds : List D} (c : Cal Fl X.prog X.w X.K X.mg X.base n k (spD X.K ca F) dvs) (rd : ∀ G, RL X.K ca G dvs dds) (hr : Room k X.A) (hg : Gl X n) (tk : TkE Fl X W) (ha : PA X (e :: es) (tArg X.K ca W ρ mas)) (hdb : (n == ("__debug__" : Str)) = false := by decide)
    (he : starEach (e :: es) X.env = (false, eval e X.env) :: starEach es X.env := by rfl) (hpl : (backTo pos (starEach es X.env)).any (·.1) = false := by rfl) : PE X (.Call (.Name n p) (e :: es) [] pos) (tD X.K ca W ρ (mas >>= fun ds => F (ds ++ dds))) :=
  PE.of (a1o (E := WE W) c hr hg tk ha hdb he hpl) fun σ H Q ⟨Hb, G, h⟩ => ⟨Hb, G, h.cut fun ds G1 H1 _ g1 h1 vs rvs => a3p h1 (rvs.append (rd G1))⟩
end
def ex0 : EX := ⟨[], fun _ => []⟩
def fin {S B : Type} (m : Res (Out S B D)) : Res D := m >>= fun
  | .nx _ => .ok .non
  | .rt r => .ok r
  | .ra c _ => .exc c
  | _ => .bug
def finL {S B : Type} (m : Res (Out S B (List D))) : Res (List D) := m >>= fun
  | .rt r => .ok r
  | .ra c _ => .exc c
  | _ => .bug
@[simp] theorem b0x {S B : Type} (r : D) : fin (S := S) (B := B) (.ok (.rt r)) = .ok r := rfl
@[simp] theorem b0y {S B : Type} (s : S) : fin (S := S) (B := B) (.ok (.nx s)) = .ok .non := rfl
@[simp] theorem a9c {S B : Type} (c : Nat) : fin (S := S) (B := B) (.exc c) = .exc c := rfl
@[simp] theorem a9d {S B : Type} : fin (S := S) (B := B) .bug = .bug := rfl
@[simp] theorem a9e {S B : Type} (r : List D) : finL (S := S) (B := B) (.ok (.rt r)) = .ok r := rfl
@[simp] theorem a7z {S B : Type} (c : Nat) : finL (S := S) (B := B) (.exc c) = .exc c := rfl
@[simp] theorem a70 {S B : Type} : finL (S := S) (B := B) .bug = .bug := rfl
def F0 {α : Type} (m : Res α) : List D → Res α | [] => m | _ => .bug
def F1 {α : Type} (m : D → Res α) : List D → Res α | [a] => m a | _ => .bug
def F2 {α : Type} (m : D → D → Res α) : List D → Res α | [a, b] => m a b | _ => .bug
def F3 {α : Type} (m : D → D → D → Res α) : List D → Res α | [a, b, c] => m a b c | _ => .bug
def F4 {α : Type} (m : D → D → D → D → Res α) : List D → Res α | [a, b, c, d] => m a b c d | _ => .bug
def F5 {α : Type} (m : D → D → D → D → D → Res α) : List D → Res α | [a, b, c, d, e] => m a b c d e | _ => .bug
def F6 {α : Type} (m : D → D → D → D → D → D → Res α) : List D → Res α | [a, b, c, d, e, f] => m a b c d e f | _ => .bug
def F7 {α : Type} (m : D → D → D → D → D → D → D → Res α) : List D → Res α | [a, b, c, d, e, f, g] => m a b c d e f g | _ => .bug
@[simp] theorem F0_eq {α : Type} (m : Res α) : F0 m [] = m := rfl
@[simp] theorem F1_eq {α : Type} (m : D → Res α) (a : D) : F1 m [a] = m a := rfl
@[simp] theorem F2_eq {α : Type} (m : D → D → Res α) (a b : D) : F2 m [a, b] = m a b := rfl
@[simp] theorem F3_eq {α : Type} (m : D → D → D → Res α) (a b c : D) : F3 m [a, b, c] = m a b c := rfl
@[simp] theorem F4_eq {α : Type} (m : D → D → D → D → Res α) (a b c d : D) : F4 m [a, b, c, d] = m a b c d := rfl
@[simp] theorem F5_eq {α : Type} (m : D → D → D → D → D → Res α) (a b c d e : D) : F5 m [a, b, c, d, e] = m a b c d e := rfl
@[simp] theorem F6_eq {α : Type} (m : D → D → D → D → D → D → Res α) (a b c d e f : D) : F6 m [a, b, c, d, e, f] = m a b c d e f := rfl
@[simp] theorem F7_eq {α : Type} (m : D → D → D → D → D → D → D → Res α) (a b c d e f g : D) : F7 m [a, b, c, d, e, f, g] = m a b c d e f g := rfl
theorem a08 {α : Type} {m : D → Res α} {ds : List D} (h : F1 m ds ≠ .bug) : ∃ a, ds = [a] := by unfold F1 at h; split at h <;> first | exact ⟨_, rfl⟩ | exact (h rfl).elim
theorem a18 {α : Type} {m : D → D → Res α} {ds : List D} (h : F2 m ds ≠ .bug) : ∃ a b, ds = [a, b] := by unfold F2 at h; split at h <;> first | exact ⟨_, _, rfl⟩ | exact (h rfl).elim
theorem a3q {α : Type} {m : D → D → D → D → D → Res α} {ds : List D} (h : F5 m ds ≠ .bug) : ∃ a b c d e, ds = [a, b, c, d, e] := by unfold F5 at h; split at h <;> first | exact ⟨_, _, _, _, _, rfl⟩ | exact (h rfl).elim
def rho0 (N : List Str) (ds : List D) : Env := ds.map (fun d => some (.d d)) ++ List.replicate (N.length - ds.length) none
theorem a28 {K : PySem.W.Frag} {ca : CA} {G H : Hp} {N : List Str} (s : SG ca G H) {ds : List D} {vs : List V} (r : RL K ca G vs ds) : EnvOk K ca G H (L2.start N vs) (rho0 N ds) (fun _ => none_) := by
  refine ⟨s, fun i o h => ?_, fun i j a z => z.elim, fun i a z => z.elim⟩
  unfold rho0 at h
  by_cases hi : i < ds.length
  · rw [List.getElem?_append_left (by rw [List.length_map]; exact hi), List.getElem?_map] at h
    cases e : ds[i]? with
    | none => rw [e] at h; cases h
    | some d =>
      rw [e] at h
      have h' : O.d d = o := Option.some.inj (Option.some.inj h)
      subst h'
      obtain ⟨v, q1, q2⟩ := r.get e
      refine ⟨v, ?_, .d q2⟩
      unfold L2.start
      rw [List.getElem?_append_left (by rw [List.length_map, r.length]; exact hi), List.getElem?_map, q1]
      rfl
  · rw [List.getElem?_append_right (by rw [List.length_map]; omega), List.getElem?_replicate] at h
    split at h <;> cases h
section
variable {P : Program} {w : World} {K : PySem.W.Frag} {mg : Str → Option Value} {base : Heap} {ca : CA} {x qual : Str} {params : Arguments} {body : List Stmt} {scope : Scope} {dvs : List V} {kws : List (Str × V)} {f : Addr} {fd : FuncData} {N ps : List Str} {k : Nat}
abbrev WD (E : XK) : WX := fun cls d _ H => E cls d H
theorem def_D {F : List D → Res D} (D0 : FunD K x qual params body scope dvs kws f fd) (Sc : FnScope N ps scope) (hlen : ∀ ds, F ds ≠ .bug → ds.length = ps.length)
    (hb : ∀ (cdv : Value) (A : Around) (outer : List PySem.Env) (s : Shared) (H : Hp) (E : XK) (ds : List D), Room k (A.deeper (envOfC qual scope s.heap.objs.size f cdv)) → F ds ≠ .bug →
      ∃ (S : Type) (emb : S → Lk.Env) (M : Res (Out S Empty D)), PSs (cxOf (Fl P w) P w K mg base N qual scope f cdv A outer s H E) body (tS K ca (WD E) ex0 emb (fun e : Empty => e.elim) (rtO K ca O.d) (rho0 N ds) M) ∧ fin M = F ds) :
    FnOk P w K mg base (Fl P w) (k + 1) f fd ps (spD K ca F) := by
  refine D0.ok Sc (fun vs H Q E ⟨G, ds, _, r, nb, _⟩ => by rw [r.length]; exact hlen ds nb) fun cdv A outer s H vs Q E hr ⟨G, ds, sg, r, nb, q1, q2⟩ => ?_
  obtain ⟨S, emb, M, hp, e⟩ := hb cdv A outer s H E ds hr nb
  refine ⟨_, hp, G, fun _ => none_, a28 sg r, ?_⟩
  have gr : ∀ {G' H' : Hp} {F2 : AS}, Evo G H (All fun _ => none_) G' H' F2 → Grow G H G' H' := fun {G' H' F2} v => ⟨v.g, v.sub, v.h.sm (fun _ ⟨_, z⟩ => z), fun a o z => (v.new a o z).elim .inl fun q => q.elim .inr fun ⟨_, z⟩ => z.elim⟩
  refine ⟨fun z => nb (by rw [← e, z]; rfl), fun s2 z σ' G' H' f' v E' => q1 .non (by rw [← e, z]; rfl) G' H' (gr v) .non .non, fun b => b.elim, fun b => b.elim, fun d z v G' H' g ev ⟨ow, fr⟩ => ?_, fun c z σ' G' H' f' v E' => q2 c (by rw [← e, z]; rfl) G' H' (gr v), fun c os z σ' G' H' f' v E' => q2 c (by rw [← e, z]; rfl) G' H' (gr v)⟩
  cases ow with
  | d rv => exact q1 d (by rw [← e, z]; rfl) G' H' (gr ev) v rv
end
end Lk
namespace Lk
open PySem PySem.Spec PyProof.Rows L2
def locB (sc : Scope) (x : Str) : Bool := match sc.names.lookup x with
  | some .local => true
  | some .cell => true
  | _ => false
def glB (sc : Scope) (x : Str) : Bool := match sc.names.lookup x with
  | some .globalImplicit => true
  | _ => false
theorem a4b {sc : Scope} {x : Str} (h : locB sc x = true) : Loc sc x := by
  unfold locB at h
  split at h
  · exact .inl (by assumption)
  · exact .inr (by assumption)
  · cases h
theorem a49 {sc : Scope} {x : Str} (h : glB sc x = true) : sc.names.lookup x = some .globalImplicit := by
  unfold glB at h
  split at h
  · assumption
  · cases h
theorem Loc.vis {sc : Scope} {x : Str} (h : Loc sc x) : Vis sc x := h.elim .inl fun q => .inr (.inl q)
theorem lo {sc : Scope} {N : List Str} (h : (N.all (locB sc)) = true) (i : Nat) {x : Str} (e : N[i]? = some x) : Loc sc x := a4b (List.all_eq_true.mp h x (List.mem_of_getElem? e))
theorem vi {sc : Scope} {N : List Str} (h : (N.all (locB sc)) = true) (i : Nat) {x : Str} (e : N[i]? = some x) : Vis sc x := Loc.vis (lo h i e)
theorem gl {sc : Scope} {N : List Str} (h : (N.all (glB sc)) = true) (i : Nat) {x : Str} (e : N[i]? = some x) : sc.names.lookup x = some .globalImplicit := a49 (List.all_eq_true.mp h x (List.mem_of_getElem? e))
def dbgB (x : Str) : Bool := !(x == ("__debug__" : Str)) && !(x == ("__classdict__" : Str))
theorem dbg1 {N : List Str} (h : (N.all dbgB) = true) (i : Nat) {x : Str} (e : N[i]? = some x) : (x == ("__debug__" : Str)) = false := by
  have q := List.all_eq_true.mp h x (List.mem_of_getElem? e)
  unfold dbgB at q
  rw [Bool.and_eq_true] at q
  simpa using q.1
theorem dbg2 {N : List Str} (h : (N.all dbgB) = true) (i : Nat) {x : Str} (e : N[i]? = some x) : (x == ("__classdict__" : Str)) = false := by
  have q := List.all_eq_true.mp h x (List.mem_of_getElem? e)
  unfold dbgB at q
  rw [Bool.and_eq_true] at q
  simpa using q.2
theorem le_s {ρ' ρ : Env} {o : Option O} (h : Env.le ρ' ρ) : Env.le (o :: ρ') (o :: ρ) := fun i => match i with
  | 0 => fun _ q => q
  | i + 1 => fun x q => by simpa using h i x (by simpa using q)
theorem le_n {ρ' ρ : Env} {o : Option O} (h : Env.le ρ' ρ) : Env.le (none :: ρ') (o :: ρ) := fun i => match i with
  | 0 => fun _ q => by simp at q
  | i + 1 => fun x q => by simpa using h i x (by simpa using q)
mutual
def D.lf : D → Bool
  | .lst _ => false
  | .tup xs => D.lfL xs
  | .ins _ fs => D.lfF fs
  | .dic fs => D.lfF fs
  | .kd _ => false
  | .fn _ _ => false
  | .any => false
  | _ => true
def D.lfL : List D → Bool
  | [] => true
  | x :: xs => D.lf x && D.lfL xs
def D.lfF : List (Str × D) → Bool
  | [] => true
  | (_, x) :: xs => D.lf x && D.lfF xs
end
section
variable {K : PySem.W.Frag} {ca : CA} {G : Hp} {p : Addr} {us : List V}
end
def D.free (d : D) : Res D := if D.lf d = true then .ok d else .bug
@[simp] theorem a71 (i : Int) : D.free (.int i) = .ok (.int i) := rfl
@[simp] theorem a9f (i : Bool) : D.free (.bl i) = .ok (.bl i) := rfl
@[simp] theorem a72 (i : Str) : D.free (.str i) = .ok (.str i) := rfl
@[simp] theorem a73 : D.free .non = .ok .non := rfl
@[simp] theorem a29 : ∀ ns : List Int, D.lfL (ns.map D.int) = true
  | [] => rfl
  | n :: ns => by simp [D.lfL, D.lf, a29 ns]
section
variable {X : Cx} {ca : CA} {W : WX} {ρ : Env} {e : Expr} {i : Nat} {rr : Option V} {xs : List D} {α : Type}
theorem a1q {n : Str} {p0 pos : Pos} {b : Expr} {mb : Res D} (hN : X.N[i]? = some n) (hv : Vis X.env.scope n) (hd : (n == ("__debug__" : Str)) = false) (hcd : (n == ("__classdict__" : Str)) = false) (ho : ρ[i]? = some (some (.ol rr xs)))
    (hb : PE X b (tD X.K ca W ρ mb)) (hs : PlainIx b := by intro _ _; rfl) : PE X (.Subscript (.Name n p0) b pos) (tD X.K ca W ρ (mb >>= fun y => D.item (.lst xs) y)) :=
  PE.of (pe_ix ix_seq (pe_var hN hv hd hcd) hb hs) fun σ H Q ⟨Hb, G, h⟩ => by
    obtain ⟨f, E, hf⟩ := h.env
    obtain ⟨p, us, hσ, hp, rl, fp, _⟩ := E.own ho
    refine ⟨.ref p, hσ, Hb, G, h.cut fun y G1 H1 _ g1 h1 w rw' => ?_⟩
    cases y with
    | int k =>
      cases rw'
      cases e : L2.atI xs k with
      | none => exact (h1.nb (by simp only [D.item, e, a1i])).elim
      | some d =>
        obtain ⟨v, e1, r1⟩ := rl.atI e
        exact .inl ⟨_, _, _, _, rfl, rfl, SqL.of (g1.h.lst hp), e1, h1.ok d (by simp only [D.item, e, a1h]) _ _ (.refl h1.sub) v (r1.mono g1.g)⟩
    | _ => exact (h1.nb rfl).elim
end
theorem a5a {K : PySem.W.Frag} {ca : CA} (hT : ca.tabs = []) {F : List D → Res D} {H : Hp} {a : Addr} {ns : List Int} (hF : F [.lst (ns.map D.int)] = .ok (.bl true)) (hO : Only H) (hS : SqL K H a (ns.map V.int)) :
    spD K ca F [.ref a] H (fun v _ => v = .bl true) fun _ _ _ => False := by
  refine ⟨H, [.lst (ns.map D.int)], ⟨⟨Same.refl _, fun b ps z => ?_⟩, fun P hP => by rw [hT] at hP; cases hP⟩, .cons (.lst hS RL.ints) .nil, (by rw [hF]; intro z; cases z), fun d e G' H' g v rv => ?_, fun c e => (by rw [hF] at e; cases e)⟩
  · rcases hO b with q | ⟨o, xs, q⟩ <;> rw [q] at z <;> cases z
  · rw [hF] at e
    cases e
    cases rv
    rfl
end Lk
namespace Lk
open PySem PySem.Spec PyProof.Rows L2
variable {Fl : Program → World → CXT}
section
variable {K : PySem.W.Frag} {ca : CA}
theorem l_lt : Lift2 K ca (rI0 fun i j => .bl (decide (i < j))) D.lt := a4w
end
theorem a0e : bootBuiltins "isinstance" = some (.builtin "isinstance") := by decide +kernel
theorem a5b : bootBuiltins "list" = some (.type "list") := by decide +kernel
theorem a4c : bootBuiltins "tuple" = some (.type "tuple") := by decide +kernel
structure ExcF (K : PySem.W.Frag) (mg : Str → Option Value) (n : Str) (C : Addr) : Prop where
  g : mg n = some (.ref C)
  x : PySem.W.excIn K C He.veBase "ValueError.__new__" = true
  kp : PySem.W.keepIn K (.ref C) = true
  sb : PySem.W.subIn K (.ref C) (.type "BaseException") = some true
  ty : PySem.W.typeIn K (.ref C) = some (.type "type")
theorem ExcF.of {K : PySem.W.Frag} {h : Heap} {mg : Str → Option Value} {n : Str} (X : K.In h) (G : h.Ns mainGlobals mg) (a : (He.Fa.glo n).ok K = true) (b : (He.Fa.exc n).ok K = true) : ExcF K mg n (He.ga K n) :=
  let q := He.exc_ok b
  ⟨He.glo_ok X G a, q.1, q.2.1, q.2.2.1, q.2.2.2⟩
theorem ExcF.made {X : Cx} {n m : Str} {C : Addr} {j : Nat} {p p2 pos : Pos} (E : ExcF X.K X.mg n C) (hg : Gl X n) (hdb : (n == ("__debug__" : Str)) = false := by decide) : PMk X (.Call (.Name n p) [.Constant (.str m) j p2] [] pos) (fun _ H Q => Q (.ref C) none H) :=
  pmk_own PySem.F.excBase_ValueError E.x E.g E.kp (raises_own E.sb E.ty) hg hdb
end Lk
namespace Lk
open PySem PySem.Spec PyProof.Rows L2
theorem cx_no {P : Program} {w : World} {s : Shared} : ∀ (H : Hp) (e : Value) (s' : Shared), L2.CX P w [] H s (fun _ _ _ => False) e s' → False := by
  intro H e s' ⟨_, _, _, _, _, _, _, _, _, _, _, _, z⟩
  exact z
theorem law_end {l : PySem.W.OpenLaw} {n k : Nat} {q : Program} {loose : List Str} {XP : (Str → Option Value) → Heap → Prop} {YP : World → Heap → Prop} {d : DefRec} {F : List D → Res D}
    (e1 : l.most = some n) (e2 : n ≤ sizeLine) (e3 : d.params.defaults = []) (e4 : Room k callerA) (hF : ∀ ns : List Int, ns.length ≤ n → F [.lst (ns.map D.int)] = .ok (.bl true))
    (U : ∀ (w : World) (mg : Str → Option Value) (fa : Addr) (h : Heap), YP w h → h.Ns mainGlobals mg → mg d.name = some (.ref fa) → ∃ (K : PySem.W.Frag) (ca : CA), K.In h ∧ ca.tabs = [] ∧
      ∃ fd : FuncData, (∀ (s : Shared) (v : Value), BindsTo s fd ⟨[v], []⟩ [("script", v)]) ∧ ∀ base : Heap, K.In base → base.Ns mainGlobals mg → FnOk l.prog w K mg base (L2.CX l.prog w) k fa fd ["script"] (spD K ca F)) :
    PySem.W.WalkO q loose XP YP l.row.toRowW d [] (fun f vs => PySem.call f vs) :=
  Att.attach_call e1 e3 fun w s₀ s₁ mg mb fa o pm cd doc a vs ns G Y ho hd hcd hmg hobj hints hlen hg => by
    obtain ⟨K, ca, KX, hT, fd, hb, ok⟩ := U w mg fa _ Y G.T.g hmg
    refine law_call (CX := L2.CX l.prog w) KX G.T.g G.T.b ?_ ?_ hg hobj hints ?_ e4 ok hb ?_ cx_no
    · exact G.T.builtins
    · exact G.T.nolimit
    · exact Nat.le_trans hlen e2
    · exact fun H hO hS => a5a hT (hF ns hlen) hO hS
end Lk
namespace Lk
open PySem PySem.Spec PyProof.Rows L2
def D.isB : D → D → Res D
  | .bl a, .bl b => .ok (.bl (decide (a = b)))
  | _, _ => .bug
def D.notB : D → D → Res D
  | .bl a, .bl b => .ok (.bl (!decide (a = b)))
  | _, _ => .bug
@[simp] theorem b0z (a b : Bool) : D.isB (.bl a) (.bl b) = .ok (.bl (decide (a = b))) := rfl
@[simp] theorem a9g (a b : Bool) : D.notB (.bl a) (.bl b) = .ok (.bl (!decide (a = b))) := rfl
def llB (sc : Scope) (x : Str) : Bool := match sc.names.lookup x with
  | some .local => true
  | _ => false
theorem lcl {sc : Scope} {N : List Str} (h : (N.all (llB sc)) = true) (i : Nat) {x : Str} (e : N[i]? = some x) : sc.names.lookup x = some .local := by
  have q := List.all_eq_true.mp h x (List.mem_of_getElem? e)
  unfold llB at q
  split at q
  · assumption
  · cases q
section
variable {K : PySem.W.Frag} {ca : CA}
end
section
variable {X : Cx} {ca : CA} {W : WX} {ρ : Env} {a b c : Expr} {pos : Pos} {ma mb mc : Res D}
end
section
variable {X : Cx} {ca : CA} {W : WX} {ρ : Env} {n : Str} {p : Pos}
end
section
variable {X : Cx} {ca : CA} {W : WX} {ρ : Env} {tg iter elt : Expr} {ifs : List Expr} {scope : Scope} {own : List (Str × Nat)} {pos : Pos} {mi : Res (List D)} {i j l : Nat} {n m o : Str} {p q u t : Pos} {kk : Nat}
end
end Lk
namespace Lk
open PySem PySem.Spec PyProof.Rows L2
variable {Fl : Program → World → CXT}
structure CalK (Fl : Program → World → CXT) (P : Program) (w : World) (K : PySem.W.Frag) (mg : Str → Option Value) (base : Heap) (n : Str) (k : Nat) (sp : Sp) (np : Nat) (ks : List Str) : Prop where
  ex : ∃ (f : Addr) (fd : FuncData) (ps : List Str) (g : List Value → List Value → List Value), FnOk P w K mg base (Fl P w) k f fd ps sp ∧ mg n = some (.ref f) ∧ PySem.W.keepIn K (.ref f) = true ∧ KBn K fd ps np ks g (fun vs zs => vs ++ zs)
section
variable {X : Cx} {ca : CA} {W : WX} {ρ : Env} {n : Str} {k np : Nat} {sp : Sp} {e : Expr} {es : List Expr} {kws : List Keyword} {p pos : Pos} {mas mks : Res (List D)} {ks : List Str}
end
def D.sumA : List D → Res D := one fun
  | .lst xs => (match D.ints xs with | some ns => .ok (.int ns.sum) | none => .bug)
  | .tup xs => (match D.ints xs with | some ns => .ok (.int ns.sum) | none => .bug)
  | _ => .bug
@[simp] theorem a5c (ns : List Int) : D.sumA [.lst (ns.map D.int)] = .ok (.int ns.sum) := by simp [D.sumA, one]
@[simp] theorem a74 (ns : List Int) : D.sumA [.tup (ns.map D.int)] = .ok (.int ns.sum) := by simp [D.sumA, one]
def tryR {S B T : Type} (p : Nat → Option Bool) (m : Res (Out S B T)) (h : Nat → Res (Out S B T)) (hs : Nat → List O → Res (Out S B T)) : Res (Out S B T) := match m with
  | .exc c => (match p c with
    | some true => h c
    | some false => .exc c
    | none => .bug)
  | .ok (.ra c os) => (match p c with
    | some true => hs c os
    | some false => .exc c
    | none => .bug)
  | m => m
section
variable {S B T : Type} {p : Nat → Option Bool} {h : Nat → Res (Out S B T)} {hs : Nat → List O → Res (Out S B T)} {c : Nat} {os : List O}
@[simp] theorem b00 (s : S) : tryR p (.ok (.nx s)) h hs = .ok (.nx s) := rfl
@[simp] theorem b01 (s : B) : tryR p (.ok (.bk s)) h hs = .ok (.bk s) := rfl
@[simp] theorem b02 (s : B) : tryR p (.ok (.ct s)) h hs = .ok (.ct s) := rfl
@[simp] theorem b03 (s : T) : tryR p (.ok (.rt s)) h hs = .ok (.rt s) := rfl
theorem a4d (e : p c = some true) : tryR p (.exc c) h hs = h c := by
  show (match p c with | some true => h c | some false => Res.exc c | none => Res.bug) = h c
  rw [e]
theorem a2j (e : p c = some false) : tryR p (.exc c) h hs = .exc c := by
  show (match p c with | some true => h c | some false => Res.exc c | none => Res.bug) = .exc c
  rw [e]
theorem a5d (e : p c = some true) : tryR p (.ok (.ra c os)) h hs = hs c os := by
  show (match p c with | some true => hs c os | some false => Res.exc c | none => Res.bug) = hs c os
  rw [e]
theorem a2s (e : p c = some false) : tryR p (.ok (.ra c os)) h hs = .exc c := by
  show (match p c with | some true => hs c os | some false => Res.exc c | none => Res.bug) = .exc c
  rw [e]
end
section
variable {X : Cx} {ca : CA} {S B T : Type} {W : WX} {ρ : Env} {ρx : EX} {emb : S → Env} {embB : B → Env} {out : T → RtP} {x : Str} {c : Value} {body suite : List Stmt} {b₀ : Stmt} {np pos pos' : Pos} {M : Res (Out S B T)} {Mh : Nat → Res (Out S B T)} {Ms : Nat → List O → Res (Out S B T)} {pp : Nat → Option Bool}
theorem a4e {K : PySem.W.Frag} {D : Ends} {G H : Hp} {F : AS} (hp : ∀ j b, pp j = some b → PySem.W.exmOne K (.ref (ca j)) c = some b) {ρb : EX} (le : Env.le ρx.e ρb.e) (le2 : ∀ os, Env.le ρx.e (ρb.emb os)) {Wi : WX}
    (h : So K ca W ρx emb embB out D G H F (tryR pp M Mh Ms)) 
    (hw : ∀ j b σ' H', PySem.W.exmOne K (.ref (ca j)) c = some b → (b = true → (∃ G' f', Evo G H F G' H' (All f') ∧ EnvOk K ca G' H' σ' ρb.e f' ∧ So K ca W ρx emb embB out D G' H' (All f') (Mh j)) ∨ (∃ os G' f', Evo G H F G' H' (All f') ∧ EnvOk K ca G' H' σ' (ρb.emb os) f' ∧ So K ca W ρx emb embB out D G' H' (All f') (Ms j os))) → (b = false → W (.ref (ca j)) none σ' H') → Wi (.ref (ca j)) none σ' H') :
    So K ca Wi ρb emb embB out D G H F M := by
  refine ⟨fun z => h.nb (by rw [z]; rfl), fun s z => h.nx s (by rw [z]; rfl), fun s z => h.bk s (by rw [z]; rfl), fun s z => h.ct s (by rw [z]; rfl), fun r z => h.rt r (by rw [z]; rfl), fun j z σ' G' H' f' v' E' => ?_, fun j os z σ' G' H' f' v' E' => ?_⟩
  · rw [z] at h
    cases q : pp j with
    | none => exact (h.nb (by show (match pp j with | some true => Mh j | some false => Res.exc j | none => Res.bug) = Res.bug; rw [q])).elim
    | some b =>
      refine hw j b σ' H' (hp j b q) (fun e => .inl ⟨G', f', v', E', ?_⟩) (fun e => ?_)
      · subst e
        rw [a4d q] at h
        exact h.on v'
      · subst e
        exact h.ex j (a2j q) σ' G' H' f' v' (E'.weak le)
  · rw [z] at h
    cases q : pp j with
    | none => exact (h.nb (by show (match pp j with | some true => Ms j os | some false => Res.exc j | none => Res.bug) = Res.bug; rw [q])).elim
    | some b =>
      refine hw j b σ' H' (hp j b q) (fun e => .inr ⟨os, G', f', v', E', ?_⟩) (fun e => ?_)
      · subst e
        rw [a5d q] at h
        exact h.on v'
      · subst e
        exact h.ex j (a2s q) σ' G' H' f' v' (E'.weak (le2 os))
theorem PSs.pre {X : Cx} {e : List Stmt} {t : TS} {P : Prop} (h : P → PSs X e t) : PSs X e (fun D σ H => P ∧ t D σ H) := ⟨fun pins s σ H D I ⟨p, q⟩ => (h p).run pins s σ H D I q⟩
theorem EnvOk.unset {K : PySem.W.Frag} {G H : Hp} {σ : L2.St} {f : Nat → AS} {i : Nat} (E : EnvOk K ca G H σ ρ f) (hc : a0v ρ [i] = true) : EnvOk K ca G H (σ.set i none) ρ f := by
  refine ⟨E.sub, fun j o h => ?_, E.sep, E.out⟩
  obtain ⟨v, q1, q2⟩ := E.slot j o h
  refine ⟨v, ?_, q2⟩
  rw [List.getElem?_set_ne (fun e => a07 hc h (by rw [e]; exact List.mem_cons_self))]
  exact q1
theorem So.unset {K : PySem.W.Frag} {D : Ends} {G H : Hp} {F : AS} {i : Nat} (h : So K ca W ρx emb embB out D G H F M) (c1 : ∀ s, a0v (emb s) [i] = true) (c2 : ∀ s, a0v (embB s) [i] = true) :
    So K ca W ρx emb embB out { nx := fun σ' H' => D.nx (σ'.set i none) H', rt := D.rt, bk := fun σ' H' => D.bk (σ'.set i none) H', ct := fun σ' H' => D.ct (σ'.set i none) H' } G H F M :=
  ⟨h.nb, fun s z σ' G' H' f' v E => h.nx s z _ G' H' f' v (E.unset (c1 s)), fun s z σ' G' H' f' v E => h.bk s z _ G' H' f' v (E.unset (c2 s)), fun s z σ' G' H' f' v E => h.ct s z _ G' H' f' v (E.unset (c2 s)), h.rt, h.ex, h.ra⟩
end
section
variable {X : Cx} {ca : CA} {W : WX} {ρ : Env} {a : Addr} {oe : Obj} {pn : List (Addr × Obj)} {j i : Nat} {tb : Nat → Option Bool} {n n1 : Str} {p1 p0 pos : Pos} {c : V} {cv : Value} {ce : Expr}
end
end Lk
namespace Lk
open PySem PySem.Spec PyProof.Rows L2
def D.strs : List D → Option (List Str)
  | [] => some []
  | .str i :: r => (D.strs r).map (i :: ·)
  | _ :: _ => none
@[simp] theorem a3a : ∀ (ns : List Str), D.strs (ns.map D.str) = some ns
  | [] => rfl
  | n :: ns => by simp [D.strs, a3a ns]
def D.txt : D → Res D
  | .str a => .ok (.str a)
  | _ => .bug
@[simp] theorem a9h (a : Str) : D.txt (.str a) = .ok (.str a) := rfl
section
variable {X : Cx} {ca : CA} {W : WX} {ρ : Env} {o e : Expr} {apos pos : Pos} {mo me : Res D}
end
def D.toStrA : List D → Res D := one fun
  | .int i => if i.natAbs.log2 < 1920 then .ok (.str (toString i)) else .bug
  | .str z => .ok (.str z)
  | _ => .bug
@[simp] theorem a4n (z : Str) : D.toStrA [.str z] = .ok (.str z) := rfl
end Lk
namespace Lk
open PySem PySem.Spec PyProof.Rows L2
section
variable {X : Cx} {ca : CA} {W : WX} {ρ : Env} {a : Expr} {pos p : Pos} {ma : Res (List D)} {i : Nat} {n : Str} {x : D}
end
section
variable {X : Cx} {ca : CA} {S B T : Type} {W : WX} {ρ : Env} {ρx : EX} {emb : S → Env} {embB : B → Env} {out : T → RtP} {i : Nat} {n : Str} {e1 e2 : Expr} {rest : List Stmt} {m1 m2 : Res D}
end
end Lk
namespace Lk
open PySem PySem.Spec PyProof.Rows L2
section
variable {X : Cx} {ca : CA} {S B T : Type} {W : WX} {ρ : Env} {ρx : EX} {emb : S → Env} {embB : B → Env} {out : T → RtP} {i : Nat} {n : Str} {e : Expr} {rest : List Stmt} {m : Res (List D)}
end
def D.flt (d : D) : Res D := if D.flat d = true then .ok d else .bug
@[simp] theorem a9i (i : Int) : D.flt (.int i) = .ok (.int i) := rfl
@[simp] theorem b04 (i : Bool) : D.flt (.bl i) = .ok (.bl i) := rfl
@[simp] theorem a9j (i : Str) : D.flt (.str i) = .ok (.str i) := rfl
@[simp] theorem a9k : D.flt .non = .ok .non := rfl
section
variable {X : Cx} {ca : CA} {W : WX} {ρ : Env} {e : Expr} {i : Nat} {o : O} {α : Type}
end
end Lk
namespace Lk
open PySem PySem.Spec PyProof.Rows L2
theorem RL.strs {K : PySem.W.Frag} {ca : CA} {G : Hp} : ∀ {ns : List Str}, RL K ca G (ns.map V.str) (ns.map D.str)
  | [] => .nil
  | n :: ns => .cons (.str n) RL.strs
def D.split : D → D → Res (List D)
  | .str a, .str b => if (b.length == 0) = false ∧ a.length + 2 ≤ 100000 then .ok ((Txt.split a b).map D.str) else .bug
  | _, _ => .bug
section
variable {X : Cx} {ca : CA} {W : WX} {ρ : Env} {o e e1 e2 e3 : Expr} {apos pos : Pos} {mo me m1 m2 m3 : Res D}
end
end Lk
namespace Lk
open PySem PySem.Spec PyProof.Rows L2
def obsX (fa : List He.Fa) (fn : List He.DefD) (ex : PySem.W.Frag → Bool) (K : PySem.W.Frag) : He.AlD := (((fa.all fun f => f.ok K) && fn.all fun d => d.ok K) && ex K, fn.map fun d => He.fnW K d.at_)
def SaysX (fa : List He.Fa) (fn : List He.DefD) (ex : PySem.W.Frag → Bool) (K : PySem.W.Frag) : Prop := obsX fa fn ex K = He.valD fn
def obsXG (n : Nat) (fa : List He.Fa) (fn : List He.DefD) (ex : PySem.W.Frag → Bool) (g : Addr → Option Obj) : He.AlD := obsX fa fn ex (He.frG g (He.asD g n ++ [cStatics]))
def hookX (n : Nat) (fa : List He.Fa) (fn : List He.DefD) (ex : PySem.W.Frag → Bool) : PySem.W.Hook where
  α := He.AlD
  obs := fun s => obsXG n fa fn ex s.heap.get?
  val := fun _ => He.valD fn
  says := fun _ h => ∃ K : PySem.W.Frag, K.In h ∧ SaysX fa fn ex K
  of := fun _ _ e => ⟨_, He.frG_in, e⟩
  keeps := fun _ _ _ ⟨K, hK, c⟩ k => ⟨K, PySem.W.Frag.In.keeps hK k, c⟩
theorem a3b {n : Nat} {fa : List He.Fa} {fn : List He.DefD} {ex : PySem.W.Frag → Bool} {g : Addr → Option Obj} {s : Shared} (h : ∀ a, g a = s.heap.get? a) : obsXG n fa fn ex g = (hookX n fa fn ex).obs s := by
  have e : g = s.heap.get? := funext h
  rw [e]
  rfl
theorem SaysX.said {fa : List He.Fa} {fn : List He.DefD} {ex : PySem.W.Frag → Bool} {K : PySem.W.Frag} (c : SaysX fa fn ex K) : He.SaysD fa fn K ∧ ex K = true := by
  have c1 : (((fa.all fun f => f.ok K) && fn.all fun d => d.ok K) && ex K) = true := congrArg Prod.fst c
  have c2 : (fn.map fun d => He.fnW K d.at_) = (He.valD fn).2 := congrArg Prod.snd c
  rw [Bool.and_eq_true] at c1
  refine ⟨?_, c1.2⟩
  show ((fa.all fun f => f.ok K) && fn.all fun d => d.ok K, fn.map fun d => He.fnW K d.at_) = (true, (He.valD fn).2)
  rw [c1.1, c2]
def excB (K : PySem.W.Frag) (D : Addr) : Bool :=
  He.eqO (PySem.W.findIn K (.ref D) "__getattribute__") (some (some (.builtin "BaseException.__getattribute__"))) && He.eqO (PySem.W.findIn K (.ref D) "__getattr__") (some none) && decide (PySem.W.subIn K (.ref D) (.type "BaseException") = some true) && PySem.W.hasDictIn K D
    && He.eqO (PySem.W.findIn K (.ref D) "__class__") (some (some (.builtin "object.__class__"))) && He.eqO (PySem.W.specialIn K (.builtin "object.__class__") "__get__") (some (some (.builtin "getset_descriptor.__get__"))) && decide (PySem.W.takesIn K (.builtin "object.__class__") = some true) && decide (PySem.W.mroIn K D (.type "object") = some true)
theorem a0b {K : PySem.W.Frag} {D : Addr} (h : excB K D = true) : ExcC K D := by
  simp only [excB, Bool.and_eq_true] at h
  obtain ⟨⟨⟨⟨⟨⟨⟨h1, h2⟩, h3⟩, h4⟩, h5⟩, h6⟩, h7⟩, h8⟩ := h
  exact ⟨He.eqO_ok h1, He.eqO_ok h2, of_decide_eq_true h3, h4, He.eqO_ok h5, He.eqO_ok h6, of_decide_eq_true h7, of_decide_eq_true h8⟩
def kitB (K : PySem.W.Frag) (D : Addr) (c : Value) (b : Bool) : Bool := decide (PySem.W.kitOne K (.ref D) c = some b)
end Lk
namespace Lk
open PySem PySem.Spec PyProof.Rows L2
inductive EO (α S : Type) where
  | va (a : α) (s : S)
  | ra (c : Nat) (os : List O)
def Fr (f : Nat → AS) (g : AS) (G H : Hp) : Prop := ∀ x, g x → ¬ All f x ∧ G x = none ∧ ∃ u, H x = some u
structure Xv (K : PySem.W.Frag) (ca : CA) (W : WX) (ρx : EX) {α S : Type} (emb : S → Env) (out : α → O) (σ : L2.St) (G H : Hp) (F : AS) (M : Res (EO α S)) (Q : VK) : Prop where
  nb : M ≠ .bug
  va : ∀ a s, M = .ok (.va a s) → ∀ G' H' f' g v, Evo G H F G' H' (fun x => All f' x ∨ g x) → EnvOk K ca G' H' σ (emb s) f' → Ow K ca G' H' v (out a) g → Fr f' g G' H' → Q v H'
  ex : ∀ c, M = .exc c → ∀ G' H' f', Evo G H F G' H' (All f') → EnvOk K ca G' H' σ ρx.e f' → W (.ref (ca c)) none σ H'
  ra : ∀ c os, M = .ok (.ra c os) → ∀ G' H' f', Evo G H F G' H' (All f') → EnvOk K ca G' H' σ (ρx.emb os) f' → W (.ref (ca c)) none σ H'
structure Xb (K : PySem.W.Frag) (ca : CA) (W : WX) (ρx : EX) {S : Type} (emb : S → Env) (σ : L2.St) (G H : Hp) (F : AS) (M : Res (EO Bool S)) (Q : Bool → Hp → Prop) : Prop where
  nb : M ≠ .bug
  va : ∀ a s, M = .ok (.va a s) → ∀ G' H' f', Evo G H F G' H' (All f') → EnvOk K ca G' H' σ (emb s) f' → Q a H'
  ex : ∀ c, M = .exc c → ∀ G' H' f', Evo G H F G' H' (All f') → EnvOk K ca G' H' σ ρx.e f' → W (.ref (ca c)) none σ H'
  ra : ∀ c os, M = .ok (.ra c os) → ∀ G' H' f', Evo G H F G' H' (All f') → EnvOk K ca G' H' σ (ρx.emb os) f' → W (.ref (ca c)) none σ H'
def EO.on {α S β : Type} (k : α → S → Res β) (r : Nat → List O → Res β) : EO α S → Res β
  | .va a s => k a s
  | .ra c os => r c os
abbrev EO.to {α S S' B T : Type} (k : α → S → Res (Out S' B T)) : EO α S → Res (Out S' B T) := EO.on k fun c os => .ok (.ra c os)
abbrev EO.then_ {α β S S' : Type} (k : α → S → Res (EO β S')) : EO α S → Res (EO β S') := EO.on k fun c os => .ok (.ra c os)
@[simp] theorem on_va {α S β : Type} (k : α → S → Res β) (r : Nat → List O → Res β) (a : α) (s : S) : EO.on k r (.va a s) = k a s := rfl
@[simp] theorem on_ra {α S β : Type} (k : α → S → Res β) (r : Nat → List O → Res β) (c : Nat) (os : List O) : EO.on k r (.ra c os : EO α S) = r c os := rfl
section
variable {X : Cx} {ca : CA} {W : WX} {ρ : Env} {ρx : EX} {α β S S' S2 B T : Type} {emb : S → Env} {emb' : S' → Env} {emb2 : S2 → Env} {embB : B → Env} {outR : T → RtP} {out : α → O} {e a b c : Expr} {pos pos' : Pos} {n : Str} {i : Nat} {rest sa sb : List Stmt} {σ : L2.St} {G H G1 H1 : Hp} {f f1 : Nat → AS} {g : AS}
def Res.tell {S B T : Type} (os : List O) : Res (Out S B T) → Res (Out S B T)
  | .exc c => .ok (.ra c os)
  | m => m
@[simp] theorem a9l {S B T : Type} (os : List O) (o : Out S B T) : Res.tell os (.ok o) = .ok o := rfl
@[simp] theorem a75 {S B T : Type} (os : List O) (c : Nat) : Res.tell os (.exc c : Res (Out S B T)) = .ok (.ra c os) := rfl
@[simp] theorem a76 {S B T : Type} (os : List O) : Res.tell os (.bug : Res (Out S B T)) = .bug := rfl
end
end Lk
namespace Lk
open PySem PySem.Spec PyProof.Rows L2
variable {Fl : Program → World → CXT}
def pinO (v : V) : O → O
  | .ol none xs => .ol (some v) xs
  | o => .pin v o
def reO : Option V → O → O
  | none, o => o
  | some v, o => pinO v o
theorem a2t {K : PySem.W.Frag} {ca : CA} {G H : Hp} {v w : V} {o : O} {F : AS} (h : Ow K ca G H v (pinO w o) F) : Ow K ca G H v o F ∧ v = w := by
  unfold pinO at h
  split at h
  · cases h with
    | ol h1 h2 h3 h4 => exact ⟨.ol h1 h2 h3 (fun _ e => by cases e), (h4 _ rfl).symm⟩
  · cases h with
    | pin h1 => exact ⟨h1, rfl⟩
theorem a4f {K : PySem.W.Frag} {ca : CA} {G H : Hp} {v : V} {o : O} {F : AS} (h : Ow K ca G H v o F) : Ow K ca G H v (pinO v o) F := by
  unfold pinO
  split
  · cases h with
    | ol h1 h2 h3 h4 => exact .ol h1 h2 h3 (fun _ e => by cases e; rfl)
  · exact .pin h
theorem a2u {K : PySem.W.Frag} {ca : CA} {G H : Hp} {v : V} {o : O} {F : AS} {r : Option V} (h : Ow K ca G H v (reO r o) F) : Ow K ca G H v o F ∧ ∀ w, r = some w → v = w := by
  cases r with
  | none => exact ⟨h, fun _ e => by cases e⟩
  | some w => exact ⟨(a2t h).1, fun _ e => by cases e; exact (a2t h).2⟩
theorem a5e {K : PySem.W.Frag} {ca : CA} {G H : Hp} {v : V} {o : O} {F : AS} {r : Option V} (h : Ow K ca G H v o F) (e : ∀ w, r = some w → v = w) : Ow K ca G H v (reO r o) F := by
  cases r with
  | none => exact h
  | some w =>
    have := e w rfl
    subst this
    exact a4f h
def putS (ρ : Env) : List Nat → List (Option V) → List O → Env
  | j :: js, r :: rs, o :: os => (putS ρ js rs os).set j (some (reO r o))
  | j :: js, _, _ => (putS ρ js [] []).set j none
  | [], _, _ => ρ
inductive SAt (ρ : Env) : List Nat → List (Option V) → List O → Prop
  | nil : SAt ρ [] [] []
  | cons {j : Nat} {js : List Nat} {r : Option V} {rs : List (Option V)} {o : O} {os : List O} : ρ[j]? = some (some (reO r o)) → j ∉ js → SAt ρ js rs os → SAt ρ (j :: js) (r :: rs) (o :: os)
inductive VAt (σ : L2.St) : List Nat → List V → Prop
  | nil : VAt σ [] []
  | cons {j : Nat} {js : List Nat} {b : V} {bs : List V} : σ[j]? = some (some b) → VAt σ js bs → VAt σ (j :: js) (b :: bs)
theorem VAt.length {σ : L2.St} : ∀ {js : List Nat} {bs : List V}, VAt σ js bs → bs.length = js.length
  | _, _, .nil => rfl
  | _, _, .cons _ h => by simp [VAt.length h]
theorem VAt.at {σ : L2.St} : ∀ {js : List Nat} {bs : List V}, VAt σ js bs → ∀ {k j : Nat}, js[k]? = some j → ∃ b, bs[k]? = some b ∧ σ[j]? = some (some b)
  | _, _, .nil, k, j, e => by simp at e
  | _, _, .cons h _, 0, j, e => by
    have e' := Option.some.inj (by simpa using e)
    subst e'
    exact ⟨_, rfl, h⟩
  | _, _, .cons _ h, k + 1, j, e => by
    obtain ⟨b, q1, q2⟩ := VAt.at h (k := k) (by simpa using e)
    exact ⟨b, by simpa using q1, q2⟩
theorem SAt.length {ρ : Env} : ∀ {js : List Nat} {rs : List (Option V)} {os : List O}, SAt ρ js rs os → rs.length = js.length ∧ os.length = js.length
  | _, _, _, .nil => ⟨rfl, rfl⟩
  | _, _, _, .cons _ _ h => ⟨by simp [(SAt.length h).1], by simp [(SAt.length h).2]⟩
theorem SAt.nodup {ρ : Env} : ∀ {js : List Nat} {rs : List (Option V)} {os : List O}, SAt ρ js rs os → js.Nodup
  | _, _, _, .nil => List.nodup_nil
  | _, _, _, .cons _ h1 h => List.nodup_cons.mpr ⟨h1, SAt.nodup h⟩
theorem SAt.at {ρ : Env} : ∀ {js : List Nat} {rs : List (Option V)} {os : List O}, SAt ρ js rs os → ∀ {k : Nat} {o : O}, os[k]? = some o → ∃ j r, js[k]? = some j ∧ rs[k]? = some r ∧ ρ[j]? = some (some (reO r o))
  | _, _, _, .nil, k, o, e => by simp at e
  | _, _, _, .cons h _ _, 0, o, e => by
    have e' := Option.some.inj (by simpa using e)
    subst e'
    exact ⟨_, _, rfl, rfl, h⟩
  | _, _, _, .cons _ _ h, k + 1, o, e => by
    obtain ⟨j, r, q1, q2, q3⟩ := SAt.at h (k := k) (by simpa using e)
    exact ⟨j, r, by simpa using q1, by simpa using q2, q3⟩
theorem SAt.at2 {ρ : Env} : ∀ {js : List Nat} {rs : List (Option V)} {os : List O}, SAt ρ js rs os → ∀ {k j : Nat}, js[k]? = some j → ∃ o r, os[k]? = some o ∧ rs[k]? = some r ∧ ρ[j]? = some (some (reO r o))
  | _, _, _, .nil, k, o, e => by simp at e
  | _, _, _, .cons h _ _, 0, o, e => by
    have e' := Option.some.inj (by simpa using e)
    subst e'
    exact ⟨_, _, rfl, rfl, h⟩
  | _, _, _, .cons _ _ h, k + 1, o, e => by
    obtain ⟨j, r, q1, q2, q3⟩ := SAt.at2 h (k := k) (by simpa using e)
    exact ⟨j, r, by simpa using q1, by simpa using q2, q3⟩
theorem a02 {ρ : Env} : ∀ {js : List Nat} {rs : List (Option V)} {os : List O} {i : Nat} {o : O}, js.Nodup → (putS ρ js rs os)[i]? = some (some o) → (i ∉ js ∧ ρ[i]? = some (some o)) ∨ ∃ (k : Nat) (r : Option V) (o' : O), js[k]? = some i ∧ rs[k]? = some r ∧ os[k]? = some o' ∧ o = reO r o'
  | [], rs, os, i, o, _, h => .inl ⟨by simp, by unfold putS at h; exact h⟩
  | j :: js, r :: rs, o1 :: os, i, o, nd, h => by
    unfold putS at h
    have nd' := List.nodup_cons.mp nd
    by_cases e : i = j
    · subst e
      have hl : i < ((putS ρ js rs os).set i (some (reO r o1))).length := (List.getElem?_eq_some_iff.mp h).1
      rw [List.length_set] at hl
      rw [List.getElem?_set_self hl] at h
      cases h
      exact .inr ⟨0, r, o1, rfl, rfl, rfl, rfl⟩
    · rw [List.getElem?_set_ne (Ne.symm e)] at h
      rcases a02 nd'.2 h with ⟨q1, q2⟩ | ⟨k, r', o', q1, q2, q3, q4⟩
      · exact .inl ⟨by simp [e, q1], q2⟩
      · exact .inr ⟨k + 1, r', o', by simpa using q1, by simpa using q2, by simpa using q3, q4⟩
  | j :: js, [], os, i, o, nd, h => by
    have h' : ((putS ρ js [] []).set j none)[i]? = some (some o) := by
      cases os <;> (unfold putS at h; exact h)
    have nd' := List.nodup_cons.mp nd
    by_cases e : i = j
    · subst e
      have hl : i < ((putS ρ js [] []).set i none).length := (List.getElem?_eq_some_iff.mp h').1
      rw [List.length_set] at hl
      rw [List.getElem?_set_self hl] at h'
      cases h'
    · rw [List.getElem?_set_ne (Ne.symm e)] at h'
      rcases a02 nd'.2 h' with ⟨q1, q2⟩ | ⟨k, r', o', q1, q2, q3, q4⟩
      · exact .inl ⟨by simp [e, q1], q2⟩
      · simp at q3
  | j :: js, r :: rs, [], i, o, nd, h => by
    have h' : ((putS ρ js [] []).set j none)[i]? = some (some o) := by
      unfold putS at h; exact h
    have nd' := List.nodup_cons.mp nd
    by_cases e : i = j
    · subst e
      have hl : i < ((putS ρ js [] []).set i none).length := (List.getElem?_eq_some_iff.mp h').1
      rw [List.length_set] at hl
      rw [List.getElem?_set_self hl] at h'
      cases h'
    · rw [List.getElem?_set_ne (Ne.symm e)] at h'
      rcases a02 nd'.2 h' with ⟨q1, q2⟩ | ⟨k, r', o', q1, q2, q3, q4⟩
      · exact .inl ⟨by simp [e, q1], q2⟩
      · simp at q3
abbrev sv (bs : List V) : L2.St := bs.map some
abbrev eo (os : List O) : Env := os.map some
section
variable {K : PySem.W.Frag} {ca : CA} {G H G1 H1 : Hp} {σ : L2.St} {ρ : Env} {f : Nat → AS} {js : List Nat} {rs : List (Option V)} {os os' : List O} {bs : List V}
abbrev subF (js : List Nat) (f : Nat → AS) : Nat → AS := fun k a => ∃ j, js[k]? = some j ∧ f j a
theorem map_some_get {α : Type} {xs : List α} {k : Nat} {x : α} : (xs.map some)[k]? = some (some x) ↔ xs[k]? = some x := by
  rw [List.getElem?_map]
  cases xs[k]? <;> simp
theorem EnvOk.part (E : EnvOk K ca G H σ ρ f) (s : SAt ρ js rs os) (v : VAt σ js bs) : EnvOk K ca G H (sv bs) (eo os) (subF js f) ∧ ∀ (k : Nat) (w : V), rs[k]? = some (some w) → bs[k]? = some w := by
  refine ⟨⟨E.sub, fun k o h => ?_, fun k l a ⟨j, h1, h2⟩ ⟨j', h3, h4⟩ => ?_, fun k a ⟨j, h1, h2⟩ => E.out j a h2⟩, fun k w h => ?_⟩
  · obtain ⟨j, r, q1, q2, q3⟩ := s.at (map_some_get.mp h)
    obtain ⟨b, q4, q5⟩ := v.at q1
    obtain ⟨w, q6, q7⟩ := E.slot j _ q3
    rw [q5] at q6
    cases q6
    exact ⟨b, map_some_get.mpr q4, (a2u q7).1.wide fun a z => ⟨j, q1, z⟩⟩
  · have := E.sep j j' a h2 h4
    subst this
    exact (List.getElem?_inj (List.getElem?_eq_some_iff.mp h1).1 s.nodup).mp (by rw [h1, h3])
  · have hk : k < rs.length := (List.getElem?_eq_some_iff.mp h).1
    rw [s.length.1] at hk
    obtain ⟨o, r, q1, q2, q3⟩ := s.at2 (k := k) (List.getElem?_eq_getElem hk)
    rw [h] at q2
    cases q2
    obtain ⟨b, q4, q5⟩ := v.at (k := k) (List.getElem?_eq_getElem hk)
    obtain ⟨w', q6, q7⟩ := E.slot _ _ q3
    rw [q5] at q6
    cases q6
    rw [(a2u q7).2 w rfl] at q4
    exact q4
abbrev backF (js : List Nat) (fs' f : Nat → AS) : Nat → AS := fun i a => (∃ k, js[k]? = some i ∧ fs' k a) ∨ (i ∉ js ∧ f i a)
theorem EnvOk.back {g : AS} {fs' : Nat → AS} (E : EnvOk K ca G H σ ρ f) (nd : js.Nodup) (v : VAt σ js bs) (pin : ∀ (k : Nat) (w : V), rs[k]? = some (some w) → bs[k]? = some w) (ev : Evo G H (All (subF js f)) G1 H1 (fun x => All fs' x ∨ g x)) (E' : EnvOk K ca G1 H1 (sv bs) (eo os') fs') (fr : Fr fs' g G1 H1) :
    EnvOk K ca G1 H1 σ (putS ρ js rs os') (backF js fs' f) ∧ Evo G H (All f) G1 H1 (fun x => All (backF js fs' f) x ∨ g x) ∧ Fr (backF js fs' f) g G1 H1 := by
  have inSub : ∀ {x}, All (subF js f) x → ∃ j ∈ js, f j x := fun {x} ⟨k, j, h1, h2⟩ => ⟨j, List.mem_of_getElem? h1, h2⟩
  have keep : ∀ {i x}, i ∉ js → f i x → ¬ All (subF js f) x := fun {i x} hi hx z => by
    obtain ⟨j, h1, h2⟩ := inSub z
    rw [E.sep i j x hx h2] at hi
    exact hi h1
  have apart : ∀ {i x}, i ∉ js → f i x → ¬ (All fs' x ∨ g x) := fun {i x} hi hx z => by
    rcases ev.own x z with q | q
    · exact keep hi hx q
    · obtain ⟨_, u, hu⟩ := E.out i x hx
      rw [q] at hu; cases hu
  refine ⟨⟨E.sub.smF ev.g ev.sub ev.h, fun i o h => ?_, fun i j a h1 h2 => ?_, fun i a h => ?_⟩, ⟨ev.g, ev.sub, ev.h.wide fun x q => ?_, fun x o z => ?_, fun x z => ?_⟩, fun x z => ?_⟩
  · rcases a02 nd h with ⟨q1, q2⟩ | ⟨k, r, o', q1, q2, q3, q4⟩
    · obtain ⟨w, z1, z2⟩ := E.slot i o q2
      exact ⟨w, z1, (z2.mono ev.g fun a u fa z n => ev.h.k a u z (keep q1 fa) n).wide fun a z => .inr ⟨q1, z⟩⟩
    · obtain ⟨b, z1, z2⟩ := v.at q1
      obtain ⟨w, z3, z4⟩ := E'.slot k o' (map_some_get.mpr q3)
      have z5 := map_some_get.mp z3
      rw [z1] at z5
      cases z5
      subst q4
      refine ⟨b, z2, a5e (z4.wide fun a z => .inl ⟨k, q1, z⟩) fun w' e => ?_⟩
      subst e
      have := pin k w' q2
      rw [z1] at this
      cases this
      rfl
  · rcases h1 with ⟨k, h1, h3⟩ | ⟨h1, h3⟩ <;> rcases h2 with ⟨l, h2, h4⟩ | ⟨h2, h4⟩
    · have := E'.sep k l a h3 h4
      subst this
      rw [h1] at h2
      cases h2
      rfl
    · exact (apart h2 h4 (.inl ⟨k, h3⟩)).elim
    · exact (apart h1 h3 (.inl ⟨l, h4⟩)).elim
    · exact E.sep i j a h3 h4
  · rcases h with ⟨k, h1, h3⟩ | ⟨h1, h3⟩
    · exact E'.out k a h3
    · obtain ⟨z1, u, z2⟩ := E.out i a h3
      refine ⟨?_, ev.h.ex_ z2⟩
      cases q : G1 a with
      | none => rfl
      | some w =>
        rcases ev.new a w q with z | z | z
        · rw [z1] at z; cases z
        · rw [z2] at z; cases z
        · exact (keep h1 h3 z).elim
  · obtain ⟨j, _, q2⟩ := inSub q
    exact ⟨j, q2⟩
  · rcases ev.new x o z with q | q | q
    · exact .inl q
    · exact .inr (.inl q)
    · obtain ⟨j, _, q2⟩ := inSub q
      exact .inr (.inr ⟨j, q2⟩)
  · have z' : (All fs' x ∨ g x) ∨ ∃ i, i ∉ js ∧ f i x := by
      rcases z with ⟨i, ⟨k, _, h3⟩ | h⟩ | z
      · exact .inl (.inl ⟨k, h3⟩)
      · exact .inr ⟨i, h⟩
      · exact .inl (.inr z)
    rcases z' with z | ⟨i, _, z⟩
    · rcases ev.own x z with q | q
      · obtain ⟨j, _, q2⟩ := inSub q
        exact .inl ⟨j, q2⟩
      · exact .inr q
    · exact .inl ⟨i, z⟩
  · obtain ⟨z1, z2⟩ := fr x z
    refine ⟨fun ⟨i, q⟩ => ?_, z2⟩
    rcases q with ⟨k, _, h3⟩ | ⟨h1, h3⟩
    · exact z1 ⟨k, h3⟩
    · exact apart h1 h3 (.inr z)
end
inductive XR (α : Type) where
  | val (a : α)
  | exc (c : Nat)
def mixV : List Bool → List V → List V → List V
  | true :: ks, b :: bs, us => b :: mixV ks bs us
  | false :: ks, bs, u :: us => u :: mixV ks bs us
  | _, _, _ => []
def spM {α : Type} (K : PySem.W.Frag) (ca : CA) (ks : List Bool) (out : α → O) (m : List O → List D → Res (XR α × List O)) : Sp := fun vs H Q E => ∃ (G : Hp) (bs us : List V) (os : List O) (ds : List D) (f : Nat → AS),
  vs = mixV ks bs us ∧ EnvOk K ca G H (sv bs) (eo os) f ∧ RL K ca G us ds ∧ bs.length = os.length ∧ m os ds ≠ .bug ∧
  (∀ a os', m os ds = .ok (.val a, os') → ∀ G' H' f' g v, Evo G H (All f) G' H' (fun x => All f' x ∨ g x) → EnvOk K ca G' H' (sv bs) (eo os') f' → Ow K ca G' H' v (out a) g → Fr f' g G' H' → Q v H') ∧
  (∀ c os', m os ds = .ok (.exc c, os') → ∀ G' H' f', Evo G H (All f) G' H' (All f') → EnvOk K ca G' H' (sv bs) (eo os') f' → E (.ref (ca c)) none H')
def toEO {α : Type} (snap : List O → List O) : XR α × List O → Res (EO α (List O))
  | (.val a, os) => .ok (.va a os)
  | (.exc c, os) => .ok (.ra c (snap os))
@[simp] theorem a77 {α : Type} (snap : List O → List O) (a : α) (os : List O) : toEO snap (.val a, os) = .ok (.va a os) := rfl
@[simp] theorem a78 {α : Type} (snap : List O → List O) (c : Nat) (os : List O) : toEO snap ((.exc c, os) : XR α × List O) = .ok (.ra c (snap os)) := rfl
section
variable {X : Cx} {ca : CA} {W : WX} {ρ : Env} {ρx : EX} {α : Type} {out : α → O} {e : Expr} {es : List Expr} {pos p p0 : Pos} {n : Str} {j k : Nat} {ks : List Bool} {js : List Nat} {rs : List (Option V)} {os : List O} {ma : Res D} {mds : Res (List D)} {m : List O → List D → Res (XR α × List O)} {snap : List O → List O}
def Res.told {α : Type} : Res α → Res α
  | .exc _ => .bug
  | m => m
@[simp] theorem a9m {α : Type} (a : α) : Res.told (.ok a) = .ok a := rfl
end
section
variable {K : PySem.W.Frag} {ca : CA} {G H : Hp} {N : List Str} {ks : List Bool} {bs us : List V} {os : List O} {ds : List D} {f : Nat → AS}
end
structure LAt (ρ : Env) (js : List Nat) (bs : List V) (os : List O) : Prop where
  nd : js.Nodup
  at_ : ∀ (k : Nat) (o : O), os[k]? = some o → ∃ (j : Nat) (b : V), js[k]? = some j ∧ bs[k]? = some b ∧ ρ[j]? = some (some (reO (some b) o))
theorem LAt.one {ρ : Env} {j : Nat} {b : V} {o : O} (h : ρ[j]? = some (some (reO (some b) o))) : LAt ρ [j] [b] [o] :=
  ⟨by simp, fun k o' e => by
    cases k with
    | zero => simp at e; subst e; exact ⟨j, b, rfl, rfl, h⟩
    | succ k => simp at e⟩
theorem LAt.two {ρ : Env} {j l : Nat} {b c : V} {o q : O} (h : ρ[j]? = some (some (reO (some b) o))) (h2 : ρ[l]? = some (some (reO (some c) q))) (n : (j == l) = false) : LAt ρ [j, l] [b, c] [o, q] :=
  ⟨by simpa using n, fun k o' e => by
    match k with
    | 0 => simp at e; subst e; exact ⟨j, b, rfl, rfl, h⟩
    | 1 => simp at e; subst e; exact ⟨l, c, rfl, rfl, h2⟩
    | k + 2 => simp at e⟩
theorem EnvOk.lent {K : PySem.W.Frag} {ca : CA} {G H : Hp} {σ : L2.St} {ρ : Env} {f : Nat → AS} {js : List Nat} {bs : List V} {os : List O} (E : EnvOk K ca G H σ ρ f) (s : LAt ρ js bs os) : EnvOk K ca G H (sv bs) (eo os) (subF js f) := by
  refine ⟨E.sub, fun k o h => ?_, fun k l a ⟨j, h1, h2⟩ ⟨j', h3, h4⟩ => ?_, fun k a ⟨j, h1, h2⟩ => E.out j a h2⟩
  · obtain ⟨j, b, q1, q2, q3⟩ := s.at_ k o (map_some_get.mp h)
    obtain ⟨w, q6, q7⟩ := E.slot j _ q3
    obtain ⟨q8, q9⟩ := a2u q7
    have := q9 b rfl
    subst this
    exact ⟨w, map_some_get.mpr q2, q8.wide fun a z => ⟨j, q1, z⟩⟩
  · have := E.sep j j' a h2 h4
    subst this
    exact (List.getElem?_inj (List.getElem?_eq_some_iff.mp h1).1 s.nd).mp (by rw [h1, h3])
def finM {α S B : Type} (n : Nat) (fs : S → List O) (non : Option α) : Res (Out S B (α × List O)) → Res (XR α × List O)
  | .ok (.nx s) => (match non with | some a => .ok (.val a, fs s) | none => .bug)
  | .ok (.rt r) => .ok (.val r.1, r.2)
  | .ok (.ra c os) => if os.length = n then .ok (.exc c, os) else .bug
  | _ => .bug
section
variable {α S B : Type} {n : Nat} {fs : S → List O} {non : Option α}
@[simp] theorem a9n (a : α) (s : S) : finM (B := B) n fs (some a) (.ok (.nx s)) = .ok (.val a, fs s) := rfl
@[simp] theorem a9o (r : α × List O) : finM (B := B) n fs non (.ok (.rt r)) = .ok (.val r.1, r.2) := rfl
@[simp] theorem a79 : finM (B := B) n fs non .bug = .bug := rfl
@[simp] theorem a8a {c : Nat} {o : O} {fs : S → List O} : finM (B := B) 1 fs non (.ok (.ra c [o])) = .ok (.exc c, [o]) := rfl
@[simp] theorem a8b {c : Nat} {o q : O} {fs : S → List O} : finM (B := B) 2 fs non (.ok (.ra c [o, q])) = .ok (.exc c, [o, q]) := rfl
end
def FM1 {β : Type} (m : O → List D → Res β) : List O → List D → Res β
  | [o], ds => m o ds
  | _, _ => .bug
def FM2 {β : Type} (m : O → O → List D → Res β) : List O → List D → Res β
  | [o, q], ds => m o q ds
  | _, _ => .bug
@[simp] theorem b05 {β : Type} (m : O → List D → Res β) (o : O) (ds : List D) : FM1 m [o] ds = m o ds := rfl
@[simp] theorem b06 {β : Type} (m : O → O → List D → Res β) (o q : O) (ds : List D) : FM2 m [o, q] ds = m o q ds := rfl
section
variable {P : Program} {w : World} {K : PySem.W.Frag} {mg : Str → Option Value} {base : Heap} {ca : CA} {x qual : Str} {params : Arguments} {body : List Stmt} {scope : Scope} {dvs : List V} {kws : List (Str × V)} {f : Addr} {fd : FuncData} {N ps : List Str} {k : Nat} {α : Type} {out : α → O} {m : List O → List D → Res (XR α × List O)} {ks : List Bool}
end
section
variable {X : Cx} {ca : CA} {W : WX} {ρ : Env} {ρx : EX} {α S S' B : Type} {emb : S → Env} {emb' : S' → Env} {embB : B → Env} {out : α → O} {e : Expr} {pos : Pos} {js : List Nat} {bs : List V} {os : List O}
theorem a2v {α β γ : Type} (m : Res α) (f : α → Res β) (g : β → Res γ) : ((m >>= f) >>= g) = (m >>= fun x => f x >>= g) := by cases m <;> rfl
end
end Lk
namespace Lk
open PySem PySem.Spec PyProof.Rows L2
variable {Fl : Program → World → CXT}
def putO (f : Str) (w : O) : List (Str × O) → List (Str × O)
  | [] => [(f, w)]
  | (g, x) :: r => if g = f then (g, w) :: r else (g, x) :: putO f w r
section
variable {K : PySem.W.Frag} {ca : CA} {G H H' : Hp}
theorem OwF.length : ∀ {fs : List (Str × O)} {vs : List (Str × V)} {F : AS}, OwF K ca G H vs fs F → vs.length = fs.length
  | [], _, _, h => by cases h; rfl
  | (n, o) :: os, _, _, h => by cases h with | cons h1 h2 h3 h4 h5 => simp [OwF.length h2]
theorem OwF.put {f : Str} {y : V} {w : O} {g : AS} (ow : Ow K ca G H y w g) : ∀ {fs : List (Str × O)} {vs : List (Str × V)} {F : AS}, OwF K ca G H vs fs F → (∀ x, F x → g x → False) → OwF K ca G H (putF f y vs) (putO f w fs) (fun x => F x ∨ g x)
  | [], _, F, h, d => by
    cases h
    exact .cons (F2 := none_) ow .nil (fun a _ z => z.elim) (fun a z => .inr z) fun a z => z.elim
  | (n, o) :: os, _, F, h, d => by
    cases h with
    | @cons _ v vs _ _ _ F1 F2 h1 h2 h3 h4 h5 =>
      by_cases e : n = f
      · subst e
        have e1 : putF n y ((n, v) :: vs) = (n, y) :: vs := if_pos rfl
        have e2 : putO n w ((n, o) :: os) = (n, w) :: os := if_pos rfl
        rw [e1, e2]
        exact .cons ow h2 (fun a z1 z2 => d a (h5 a z2) z1) (fun a z => .inr z) fun a z => .inl (h5 a z)
      · have e1 : putF f y ((n, v) :: vs) = (n, v) :: putF f y vs := if_neg e
        have e2 : putO f w ((n, o) :: os) = (n, o) :: putO f w os := if_neg e
        rw [e1, e2]
        exact .cons h1 (OwF.put ow h2 fun a z1 z2 => d a (h5 a z1) z2) (fun a z1 z2 => z2.elim (h3 a z1) (d a (h4 a z1))) (fun a z => .inl (h4 a z)) fun a z => z.elim (fun z => .inl (h5 a z)) .inr
theorem OwF.get {f : Str} : ∀ {fs : List (Str × O)} {vs : List (Str × V)} {F : AS} {o : O}, OwF K ca G H vs fs F → fs.lookup f = some o → ∃ v F', vs.lookup f = some v ∧ Ow K ca G H v o F' ∧ ∀ a, F' a → F a
  | [], _, _, _, h, e => by simp [List.lookup] at e
  | (n, o0) :: os, _, F, o, h, e => by
    cases h with
    | @cons _ v vs _ _ _ F1 F2 h1 h2 h3 h4 h5 =>
      by_cases hn : (f == n) = true
      · rw [List.lookup_cons, hn] at e
        have e' : o0 = o := Option.some.inj e
        subst e'
        exact ⟨v, F1, by rw [List.lookup_cons, hn], h1, h4⟩
      · have hn' : (f == n) = false := by simpa using hn
        rw [List.lookup_cons, hn'] at e
        obtain ⟨v', F', q1, q2, q3⟩ := OwF.get h2 e
        exact ⟨v', F', by rw [List.lookup_cons, hn']; exact q1, q2, fun a z => h5 a (q3 a z)⟩
end
section
variable {X : Cx} {ca : CA} {W : WX} {ρ : Env} {ρx : EX} {α S S' B T : Type} {emb : S → Env} {emb' : S' → Env} {embB : B → Env} {outR : T → RtP} {out : α → O} {e : Expr} {pos pos' p0 : Pos} {n f : Str} {i : Nat} {rest : List Stmt} {r : Option V} {o : O} {cs : List Nat}
end
structure CalC (Fl : Program → World → CXT) (P : Program) (w : World) (K : PySem.W.Frag) (mg : Str → Option Value) (base : Heap) (ca : CA) (n : Str) (c k : Nat) (ks : List Bool) (m : List O → List D → Res (XR D × List O)) (dvs : List V) : Prop where
  ex : ∃ (f : Addr) (fd : FuncData) (ps : List Str) (ds : List Value), FnOk P w K mg base (Fl P w) k f fd ps (spM K ca (true :: ks) O.d m) ∧ mg n = some (.ref (ca c)) ∧ Mk K (ca c) f ∧ Binds K fd ps ds ∧ Vals dvs ds
section
variable {X : Cx} {ca : CA} {W : WX} {ρ : Env} {n m : Str} {k c : Nat} {sp : Sp} {dvs : List V} {e : Expr} {es : List Expr} {p p2 pos apos : Pos} {mas : Res (List D)} {C : Addr} {f : Addr} {fd : FuncData} {ps : List Str} {ds : List Value} {t : TA}
structure ClsFn (K : PySem.W.Frag) (C f : Addr) (m : Str) : Prop where
  rd : ClX.CRead K C (.type "type")
  at_ : PySem.W.findCls K (.ref C) (.type "type") m = some (.val (.ref f))
end
end Lk
namespace Lk
open PySem PySem.Spec PyProof.Rows L2
variable {Fl : Program → World → CXT}
section
variable {X : Cx} {ca : CA} {W : WX} {ρ : Env} {ρx : EX} {n m : Str} {k c : Nat} {sp : Sp} {o e : Expr} {es : List Expr} {p p2 pos apos : Pos} {mo : Res D} {mas : Res (List D)} {ta : TE} {t : TA}
structure MCal (Fl : Program → World → CXT) (P : Program) (w : World) (K : PySem.W.Frag) (mg : Str → Option Value) (base : Heap) (C : Addr) (m : Str) (k : Nat) (sp : Sp) (dvs : List V) : Prop where
  cl : Cls K C
  ex : ∃ (f : Addr) (fd : FuncData) (ps : List Str) (ds : List Value), Meth K C m f ∧ FnOk P w K mg base (Fl P w) k f fd ps sp ∧ Binds K fd ps ds ∧ Vals dvs ds
theorem MCal.mono {P : Program} {w : World} {K : PySem.W.Frag} {mg : Str → Option Value} {base : Heap} {C : Addr} {m : Str} {j k : Nat} {sp : Sp} {dvs : List V} (h : MCal Fl P w K mg base C m j sp dvs) (hk : j ≤ k) : MCal Fl P w K mg base C m k sp dvs :=
  let ⟨f, fd, ps, ds, a, b, d⟩ := h.ex
  ⟨h.cl, f, fd, ps, ds, a, b.mono hk, d⟩
variable {dvs : List V} {dds : List D}
end
structure CalB (Fl : Program → World → CXT) (P : Program) (w : World) (K : PySem.W.Frag) (mg : Str → Option Value) (base : Heap) (ca : CA) (n m : Str) (c k : Nat) (sp : Sp) (dvs : List V) : Prop where
  ex : ∃ (f : Addr) (fd : FuncData) (ps : List Str) (ds : List Value), FnOk P w K mg base (Fl P w) k f fd ps sp ∧ mg n = some (.ref (ca c)) ∧ ClsFn K (ca c) f m ∧ PySem.W.keepIn K (.ref f) = true ∧ Binds K fd ps ds ∧ Vals dvs ds
section
variable {X : Cx} {ca : CA} {W : WX} {ρ : Env} {ρx : EX} {n m : Str} {k c : Nat} {α : Type} {out : α → O} {o e : Expr} {es : List Expr} {p p2 pos apos : Pos} {js : List Nat} {ks : List Bool} {rs : List (Option V)} {os : List O} {mds : Res (List D)} {mm : List O → List D → Res (XR α × List O)} {snap : List O → List O}
end
structure InsC (K : PySem.W.Frag) (C : Addr) : Prop where
  cl : Cls K C
  ha : PySem.W.findIn K (.ref C) "__class__" = some (some (.builtin "object.__class__"))
  hn : PySem.W.specialIn K (.builtin "object.__class__") "__get__" = some (some (.builtin "getset_descriptor.__get__"))
  ht : PySem.W.takesIn K (.builtin "object.__class__") = some true
  hm : PySem.W.mroIn K C (.type "object") = some true
def kitV (K : PySem.W.Frag) (D c : Value) (b : Bool) : Bool := decide (PySem.W.kitOne K D c = some b)
theorem a0c {K : PySem.W.Frag} {D c : Value} {b : Bool} (h : kitV K D c b = true) : PySem.W.kitOne K D c = some b := of_decide_eq_true h
section
variable {X : Cx} {ca : CA} {W : WX} {ρ : Env} {e ce : Expr} {ma : Res D} {pos : Pos} {c : V} {cv : Value}
theorem c_own {n : Str} {p : Pos} {C : Addr} (hg : Gl X n) (hm : X.mg n = some (.ref C)) (hdb : (n == ("__debug__" : Str)) = false := by decide) : PE X (.Name n p) (tC (.ref C)) := pe_glob hg hm rfl hdb
theorem c_ty {n : Str} {p : Pos} {T : String} (hg : Gl X n) (hm : X.mg n = none) (hv : bootBuiltins n = some (.type T)) (hn : n ≠ "__name__" := by decide) (hdb : (n == ("__debug__" : Str)) = false := by decide) : PE X (.Name n p) (tC (.ty T)) := pe_bltn (v := .ty T) hg hm hv rfl hn hdb
end
end Lk
namespace Lk
open PySem PySem.Spec PyProof.Rows L2
section
variable {X : Cx} {ca : CA} {W : WX} {ρ : Env} {n : Str} {k c : Nat} {dvs : List V} {e : Expr} {es : List Expr} {p pos : Pos} {mas : Res (List D)}
end
def teAny : List (Nat → Option Bool) → Nat → Option Bool
  | [], _ => some false
  | t :: ts, j => match t j with
    | some true => some true
    | some false => teAny ts j
    | none => none
inductive IsT (K : PySem.W.Frag) (ca : CA) : List (Nat → Option Bool) → List V → List Value → Prop
  | nil : IsT K ca [] [] []
  | cons {t : Nat → Option Bool} {ts : List (Nat → Option Bool)} {v : V} {vs : List V} {u : Value} {us : List Value} : (∀ j b, t j = some b → ExcC K (ca j) ∧ PySem.W.kitOne K (.ref (ca j)) u = some b) → ClsV v u → IsT K ca ts vs us → IsT K ca (t :: ts) (v :: vs) (u :: us)
theorem IsT.any {K : PySem.W.Frag} {ca : CA} : ∀ {ts : List (Nat → Option Bool)} {vs : List V} {us : List Value}, IsT K ca ts vs us → ∀ {j : Nat} {b : Bool}, teAny ts j = some b → PySem.W.kitAny K (.ref (ca j)) us = some b ∧ (ts ≠ [] → ExcC K (ca j))
  | _, _, _, .nil, j, b, h => by
    cases h
    exact ⟨kitAny_nil, fun z => (z rfl).elim⟩
  | _, _, _, .cons (t := t) (ts := ts) h1 _ h3, j, b, h => by
    cases e : t j with
    | none => simp only [teAny, e] at h; cases h
    | some k =>
      obtain ⟨q1, q2⟩ := h1 j k e
      cases k with
      | true =>
        simp only [teAny, e] at h
        cases h
        exact ⟨kitAny_cons q2 (fun z => by cases z) fun _ => rfl, fun _ => q1⟩
      | false =>
        simp only [teAny, e] at h
        exact ⟨kitAny_cons q2 (fun _ => (IsT.any h3 h).1) (fun z => by cases z), fun _ => q1⟩
section
variable {X : Cx} {ca : CA} {W : WX} {ρ : Env} {a : Addr} {oe : Obj} {pn : List (Addr × Obj)} {j i : Nat} {n n1 : Str} {p1 p0 pos tpos : Pos} {ces : List Expr} {kk : Nat}
end
def tabB : List (Nat × Bool) → Nat → Option Bool := fun l j => l.lookup j
theorem a0g {P : Nat → Bool → Prop} : ∀ {l : List (Nat × Bool)}, (∀ x ∈ l, P x.1 x.2) → ∀ j b, tabB l j = some b → P j b
  | [], _, j, b, h => by cases h
  | (k, c) :: l, hl, j, b, h => by
    by_cases e : (j == k) = true
    · have h' : some c = some b := by
        unfold tabB at h
        rw [List.lookup_cons, e] at h
        exact h
      cases h'
      rw [eq_of_beq e]
      exact hl _ List.mem_cons_self
    · have e' : (j == k) = false := by simpa using e
      refine a0g (P := P) (l := l) (fun x hx => hl x (List.mem_cons_of_mem _ hx)) j b ?_
      unfold tabB at h ⊢
      rw [List.lookup_cons, e'] at h
      exact h
end Lk
namespace Lk
open PySem PySem.Spec PyProof.Rows L2
def un1 {α : Type} (k : O → Res α) : List O → Res α
  | [o] => k o
  | _ => .bug
@[simp] theorem b07 {α : Type} (k : O → Res α) (o : O) : un1 k [o] = k o := rfl
section
variable {X : Cx} {ca : CA} {W : WX} {ρ : Env} {ρx : EX} {α S' B T : Type} {emb' : S' → Env} {embB : B → Env} {outR : T → RtP} {out : α → O} {e c : Expr} {pos pos' : Pos} {n : Str} {i j : Nat} {rest sa sb : List Stmt} {r : Option V}
end
theorem exI {l : List Bool} (h : l.all id = true) (i : Nat) {b : Bool} (e : l[i]? = some b) : b = true := List.all_eq_true.mp h b (List.mem_of_getElem? e)
theorem a0h {α : Type} {P : α → Prop} : ∀ x ∈ ([] : List α), P x := fun x h => by cases h
theorem a0a {α : Type} {P : α → Prop} {a : α} {l : List α} (h : P a) (t : ∀ x ∈ l, P x) : ∀ x ∈ a :: l, P x := fun x hx => by
  rcases List.mem_cons.mp hx with e | e
  · rw [e]; exact h
  · exact t x e
end Lk
namespace Lk
open PySem PySem.Spec PyProof.Rows L2
def D.addI : D → D → Res D
  | .int a, .int b => .ok (.int (a + b))
  | _, _ => .bug
def D.subI : D → D → Res D
  | .int a, .int b => .ok (.int (a - b))
  | _, _ => .bug
@[simp] theorem a8c (a b : Int) : D.addI (.int a) (.int b) = .ok (.int (a + b)) := rfl
@[simp] theorem a8d (a b : Int) : D.subI (.int a) (.int b) = .ok (.int (a - b)) := rfl
section
variable {X : Cx} {ca : CA} {S B T : Type} {W : WX} {ρ : Env} {ρx : EX} {emb : S → Env} {embB : B → Env} {out : T → RtP} {e : Expr} {rest : List Stmt} {pos pos' : Pos} {i : Nat} {n : Str} {ma : Res D}
end
end Lk
namespace Lk
open PySem PySem.Spec PyProof.Rows L2
theorem a1r : bootBuiltins "ValueError" = some (.type "ValueError") := by decide +kernel
end Lk
namespace Lk
open PySem PySem.Spec PyProof.Rows L2
def two (a b : List D) : O := .oL [.ol none a, .ol none b]
section
variable {X : Cx} {ca : CA} {S B T : Type} {W : WX} {ρ : Env} {ρx : EX} {emb : S → Env} {embB : B → Env} {out : T → RtP} {i : Nat} {n : Str} {e e1 e2 : Expr} {rest : List Stmt} {m1 m2 : Res (List D)} {ma : Res D} {pos pos' lpos p0 : Pos}
section
variable {a b : List D} {apos cpos epos sp q0 : Pos} {j0 : Nat} {M : Res (Out S B T)} {k : List D → Res (Out S B T)}
end
end
end Lk
namespace Lk
open PySem PySem.Spec PyProof.Rows L2
def FM1q {β : Type} (m : List D → List D → Res β) : List O → List D → Res β
  | [.ol none xs], ds => m xs ds
  | _, _ => .bug
def FM2q {β : Type} (m : List D → List D → List D → Res β) : List O → List D → Res β
  | [.ol none xs, .ol none ys], ds => m xs ys ds
  | _, _ => .bug
@[simp] theorem a9p {β : Type} (m : List D → List D → Res β) (xs : List D) (ds : List D) : FM1q m [.ol none xs] ds = m xs ds := rfl
@[simp] theorem a9q {β : Type} (m : List D → List D → List D → Res β) (xs ys : List D) (ds : List D) : FM2q m [.ol none xs, .ol none ys] ds = m xs ys ds := rfl
def unq1 {α : Type} (k : List D → Res α) : List O → Res α
  | [.ol none xs] => k xs
  | _ => .bug
def unq2 {α : Type} (k : List D → List D → Res α) : List O → Res α
  | [.ol none xs, .ol none ys] => k xs ys
  | _ => .bug
@[simp] theorem a9r {α : Type} (k : List D → Res α) (xs : List D) : unq1 k [.ol none xs] = k xs := rfl
@[simp] theorem a9s {α : Type} (k : List D → List D → Res α) (xs ys : List D) : unq2 k [.ol none xs, .ol none ys] = k xs ys := rfl
section
variable {X : Cx} {ca : CA} {W : WX} {ρ : Env} {ρx : EX} {α S S' B T : Type} {emb : S → Env} {emb' : S' → Env} {embB : B → Env} {outR : T → RtP} {out : α → O} {e c : Expr} {pos pos' : Pos} {n : Str} {i j l : Nat} {rest sa sb : List Stmt} {r q : Option V}
end
end Lk
namespace Lk
open PySem PySem.Spec PyProof.Rows L2
def D.getD : D → D → Res D
  | .dic fs, .str k => Res.opt (fs.lookup k)
  | _, _ => .bug
theorem RF.zip {K : PySem.W.Frag} {ca : CA} {G : Hp} : ∀ {ns : List Str} {vs : List V} {ds : List D}, RL K ca G vs ds → RF K ca G (ns.zip vs) (ns.zip ds)
  | [], _, _, h => by simp; exact .nil
  | n :: ns, _, _, h => by
    cases h with
    | nil => simp; exact .nil
    | cons h1 h2 => exact .cons h1 (RF.zip h2)
section
variable {X : Cx} {ca : CA} {W : WX} {ρ : Env} {pos p : Pos} {o v : Expr} {mo mv : Res D} {ms : Res (List D)} {ks : List (Option Expr)} {vs : List Expr} {names : List Str}
end
end Lk
namespace Lk
open PySem PySem.Spec PyProof.Rows L2
variable {Fl : Program → World → CXT}
inductive Stp where
  | f (n : Str)
  | i (k : Nat)
  | k (j : Nat)
mutual
def O.at : O → List Stp → Option O
  | o, [] => some o
  | .oi _ fs, .f n :: π => O.atF fs n π
  | .oL xs, .i k :: π => O.atL xs k π
  | .ot xs, .i k :: π => O.atL xs k π
  | .kd fs, .k j :: π => O.atK fs j π
  | _, _ :: _ => none
def O.atF : List (Str × O) → Str → List Stp → Option O
  | [], _, _ => none
  | (m, x) :: r, n, π => if n == m then O.at x π else O.atF r n π
def O.atL : List O → Nat → List Stp → Option O
  | [], _, _ => none
  | x :: _, 0, π => O.at x π
  | _ :: r, k + 1, π => O.atL r k π
def O.atK : List (D × O) → Nat → List Stp → Option O
  | [], _, _ => none
  | (_, x) :: _, 0, π => O.at x π
  | _ :: r, k + 1, π => O.atK r k π
end
mutual
def O.put (w : O) : O → List Stp → O
  | _, [] => w
  | .oi c fs, .f n :: π => .oi c (O.putF w fs n π)
  | .oL xs, .i k :: π => .oL (O.putL w xs k π)
  | .ot xs, .i k :: π => .ot (O.putL w xs k π)
  | .kd fs, .k j :: π => .kd (O.putK w fs j π)
  | o, _ :: _ => o
def O.putF (w : O) : List (Str × O) → Str → List Stp → List (Str × O)
  | [], _, _ => []
  | (m, x) :: r, n, π => if n == m then (m, O.put w x π) :: r else (m, x) :: O.putF w r n π
def O.putL (w : O) : List O → Nat → List Stp → List O
  | [], _, _ => []
  | x :: r, 0, π => O.put w x π :: r
  | x :: r, k + 1, π => x :: O.putL w r k π
def O.putK (w : O) : List (D × O) → Nat → List Stp → List (D × O)
  | [], _, _ => []
  | (q, x) :: r, 0, π => (q, O.put w x π) :: r
  | p :: r, k + 1, π => p :: O.putK w r k π
end
section
variable {K : PySem.W.Frag} {ca : CA} {G H : Hp}
variable {σ : L2.St} {ρ : Env} {f : Nat → AS} {i : Nat} {r : Option V} {o o1 : O} {π : List Stp}
end
section
variable {X : Cx} {ca : CA} {W : WX} {ρ : Env} {ρx : EX} {i : Nat} {n : Str} {r : Option V} {o : O} {e b : Expr} {pos p0 : Pos} {mπ : Res (List Stp)} {mb : Res D}
theorem OwL.get {K : PySem.W.Frag} {G H : Hp} : ∀ {xs : List O} {vs : List V} {F : AS} {k : Nat}, OwL K ca G H vs xs F → k < xs.length → ∃ u, vs[k]? = some u
  | [], _, _, _, _, hk => by simp at hk
  | x :: r, _, _, 0, h, _ => by cases h; exact ⟨_, rfl⟩
  | x :: r, _, _, k + 1, h, hk => by
    cases h with
    | cons h1 h2 _ _ _ =>
      obtain ⟨u, q⟩ := OwL.get (k := k) h2 (by simpa using hk)
      exact ⟨u, by simpa using q⟩
theorem OwL.length {K : PySem.W.Frag} {G H : Hp} : ∀ {xs : List O} {vs : List V} {F : AS}, OwL K ca G H vs xs F → vs.length = xs.length
  | [], _, _, h => by cases h; rfl
  | x :: r, _, _, h => by cases h with | cons h1 h2 _ _ _ => simp [OwL.length h2]
end
mutual
def D.pln : D → Bool
  | .non => true
  | .bl _ => true
  | .int _ => true
  | .str _ => true
  | .tup xs => D.plnL xs
  | _ => false
def D.plnL : List D → Bool
  | [] => true
  | x :: xs => D.pln x && D.plnL xs
end
def D.pl (d : D) : Res D := if D.pln d = true then .ok d else .bug
@[simp] theorem b08 (i : Int) : D.pl (.int i) = .ok (.int i) := rfl
@[simp] theorem pl_bl (i : Bool) : D.pl (.bl i) = .ok (.bl i) := rfl
@[simp] theorem b09 (i : Str) : D.pl (.str i) = .ok (.str i) := rfl
@[simp] theorem b1a : D.pl .non = .ok .non := rfl
def NTp : HO → Prop
  | .lst _ => True
  | .ins _ _ _ => True
  | .dK _ => True
  | .ext _ => True
  | _ => False
theorem NTp.tbl {u : HO} (h : NTp u) : ∀ ps, u ≠ .tbl ps := fun ps e => by subst e; exact h
mutual
def O.nt : O → Bool
  | .ot _ => false
  | .kd fs => O.ntK fs
  | .oL xs => O.ntL xs
  | .oi _ fs => O.ntF fs
  | .pin _ o => O.nt o
  | _ => true
def O.ntL : List O → Bool
  | [] => true
  | x :: r => O.nt x && O.ntL r
def O.ntF : List (Str × O) → Bool
  | [] => true
  | (_, x) :: r => O.nt x && O.ntF r
def O.ntK : List (D × O) → Bool
  | [] => true
  | (_, x) :: r => O.nt x && O.ntK r
end
section
variable {K : PySem.W.Frag} {ca : CA} {G H : Hp}
end
section
variable {X : Cx} {ca : CA} {W : WX} {ρ : Env} {i : Nat} {r : Option V} {o o1 : O} {π : List Stp} {e : Expr} {α : Type}
end
section
variable {X : Cx} {ca : CA} {S B T : Type} {W : WX} {ρ : Env} {ρx : EX} {emb : S → Env} {embB : B → Env} {out : T → RtP} {e b re : Expr} {rest : List Stmt} {pos : Pos} {i : Nat} {r : Option V} {o : O} {mπ : Res (List Stp)} {ma mb : Res D}
end
def O.call {α : Type} (tb : Nat → Option (List O → List D → Res (XR α × List O))) (mn : Str) (snap : O → List O) (o : O) (π : List Stp) (ds : List D) : Res (EO α O) := match O.at o π with
  | some (.oi c fs) => if (fs.lookup mn).isNone = true then (match tb c with
    | some F => F [.oi c fs] ds >>= fun
      | (.val a, [o1]) => .ok (.va a (O.put o1 o π))
      | (.exc j, [o1]) => .ok (.ra j (snap (O.put o1 o π)))
      | _ => .bug
    | none => .bug) else .bug
  | _ => .bug
section
variable {X : Cx} {ca : CA} {W : WX} {ρ : Env} {ρx : EX} {i k : Nat} {r : Option V} {o : O} {e re : Expr} {es : List Expr} {m : Str} {apos pos : Pos} {mπ : Res (List Stp)} {mas : Res (List D)} {α : Type} {out : α → O} {snap : O → List O} {tb : Nat → Option (List O → List D → Res (XR α × List O))} {n0 : Nat}
end
end Lk
namespace Lk
open PySem PySem.Spec PyProof.Rows L2
def D.ends : D → D → Res D
  | .str a, .str b => .ok (.bl (Txt.endswith a b))
  | _, _ => .bug
section
variable {X : Cx} {ca : CA} {W : WX} {ρ : Env} {o e : Expr} {apos pos : Pos} {mo me : Res D}
end
def D.isL : D → Res Unit
  | .lst _ => .ok ()
  | _ => .bug
@[simp] theorem a9t (xs : List D) : D.isL (.lst xs) = .ok () := rfl
section
variable {X : Cx} {ca : CA} {W : WX} {ρ : Env} {o e : Expr} {apos cpos : Pos} {mo me : Res D}
end
end Lk
namespace Lk
open PySem PySem.Spec PyProof.Rows L2
section
variable {X : Cx} {ca : CA} {S B T : Type} {W : WX} {ρ : Env} {ρx : EX} {emb : S → Env} {embP : V → S → Env} {embB : B → Env} {out : T → RtP} {body rest : List Stmt} {pos : Pos} {step : S → D → Res (Out S S T)} {s0 : S} {i j : Nat} {n m : Str} {p q : Pos} {rr : Option V} {xs : List D}
end
section
variable {X : Cx} {ca : CA} {W : WX} {ρ : Env} {ρx : EX} {S S' B T : Type} {emb : S → Env} {emb' : S' → Env} {embB : B → Env} {outR : T → RtP} {a b : Expr} {es : List Expr} {pos : Pos} {M : Res (EO D S)} {MB : Res (EO Bool S)} {mb : S → Res D} {nb : S → Res Bool}
theorem Xb.step {α : Type} {K : PySem.W.Frag} {out : α → O} {σ : L2.St} {G H G' H' : Hp} {f f' : Nat → AS} {g : AS} {M : Res (EO α S)} {k : EO α S → Res (EO Bool S)} {x : EO α S} {Q : Bool → Hp → Prop} (z : Xb K ca W ρx emb σ G H (All f) (M >>= k) Q) (e : M = .ok x) (ev : Evo G H (All f) G' H' (fun y => All f' y ∨ g y)) : Xb K ca W ρx emb σ G' H' (All f') (k x) Q := by
  have ev' : Evo G H (All f) G' H' (All f') := ev.less fun x z => .inl z
  subst e
  exact ⟨fun q => z.nb q, fun a s q G2 H2 f2 v2 E2 => z.va a s q G2 H2 f2 (ev'.trans v2) E2, fun c q G2 H2 f2 v2 E2 => z.ex c q G2 H2 f2 (ev'.trans v2) E2, fun c os q G2 H2 f2 v2 E2 => z.ra c os q G2 H2 f2 (ev'.trans v2) E2⟩
end
section
variable {X : Cx} {ca : CA} {S B T : Type} {W : WX} {ρ : Env} {ρx : EX} {emb : S → Env} {embB : B → Env} {out : T → RtP} {i : Nat} {n : Str} {e : Expr} {rest : List Stmt} {ma : Res D}
end
section
variable {X : Cx} {ca : CA} {W : WX} {ρ : Env} {ρx : EX} {α : Type} {out : α → O} {e : Expr} {j : Nat} {r : Option V} {M : Res (EO α (List O))}
end
end Lk
namespace Lk
open PySem PyProof.Rows L2
section
variable {K : PySem.W.Frag} {ca : CA} {G : Hp} {p : Addr} {us : List V}
theorem RL.len : ∀ {ds : List D} {vs : List V}, RL K ca G vs ds → vs.length = ds.length
  | [], _, h => by cases h; rfl
  | _ :: _, _, h => by
    cases h with
    | cons _ h2 => simp [RL.len h2]
end
section
variable {X : Cx} {ca : CA} {W : WX} {ρ : Env} {e : Expr} {i : Nat} {rr : Option V} {xs : List D} {α : Type}
end
section
variable {X : Cx} {ca : CA} {W : WX} {ρ : Env} {ρx : EX} {α : Type} {out : α → O} {e : Expr} {j : Nat} {r : Option V} {M : Res (EO α (List O))}
end
section
variable {X : Cx} {ca : CA} {W : WX} {ρ : Env} {a : Expr} {pos : Pos} {ma : Res (List D)}
end
end Lk
namespace Lk
open PySem PySem.Spec PyProof.Rows L2
def putF {α : Type} (k : Str) (d : α) (p : Str × α) : Str × α := if p.1 = k then (p.1, d) else p
section
variable {K : PySem.W.Frag} {ca : CA} {G H : Hp}
theorem RF.length : ∀ {fs : List (Str × D)} {fvs : List (Str × V)}, RF K ca G fvs fs → fvs.length = fs.length
  | [], _, h => by cases h; rfl
  | _ :: _, _, h => by cases h with | cons _ h2 => simp [RF.length h2]
theorem RF.putF {k : Str} {d : D} {v : V} (r : R K ca G v d) : ∀ {fs : List (Str × D)} {fvs : List (Str × V)}, RF K ca G fvs fs → RF K ca G (fvs.map (Lk.putF k v)) (fs.map (Lk.putF k d))
  | [], _, h => by cases h; exact .nil
  | (n, x) :: fs, _, h => by
    cases h with
    | @cons _ u us _ _ h1 h2 =>
      rw [List.map_cons, List.map_cons]
      unfold Lk.putF
      by_cases q : n = k
      · rw [if_pos q, if_pos q]; exact .cons r (RF.putF r h2)
      · rw [if_neg q, if_neg q]; exact .cons h1 (RF.putF r h2)
end
section
variable {X : Cx} {ca : CA} {S B T : Type} {W : WX} {ρ : Env} {ρx : EX} {emb : S → Env} {embB : B → Env} {out : T → RtP} {i : Nat} {n : Str} {e b : Expr} {rest : List Stmt} {ma mb : Res D} {pos p0 : Pos}
end
section
variable {X : Cx} {ca : CA} {W : WX} {ρ : Env} {pos p : Pos} {o v : Expr} {mo mv : Res D} {ms : Res (List D)} {ks : List (Option Expr)} {vs : List Expr} {names : List Str}
end
end Lk
namespace Lk
open PySem PySem.Spec PyProof.Rows L2
def D.dicC : D → Res D
  | .dic fs => .ok (.dic fs)
  | _ => .bug
@[simp] theorem a8e (fs : List (Str × D)) : D.dicC (.dic fs) = .ok (.dic fs) := rfl
section
variable {X : Cx} {ca : CA} {W : WX} {ρ : Env} {apos cpos : Pos} {o e f : Expr} {mo mi mx : Res D}
end
end Lk
namespace Lk
open PySem PySem.Spec PyProof.Rows L2
section
variable {prog : Program} {w : World} {A : Around} {R : Result → Shared → Prop} {I : Addr} {fp wr : List Addr} {G : Array GenState → Array GenState → Prop} {n : Nat} {P : Nat → Value → Prop} {St : Nat → Shared → Prop}
end
section
variable {prog : Program} {w : World} {A : Around} {E : Value → Shared → Prop} {s : Shared}
end
end Lk
namespace Lk
open PySem PySem.Spec PyProof.Rows L2
section
variable {X : Cx} {ca : CA} {W : WX} {ρ : Env} {a : Expr} {p p2 q pos : Pos} {m : Res D}
end
section
variable {X : Cx} {ca : CA} {W : WX} {ρ : Env} {iter elt : Expr} {ifs : List Expr} {scope : Scope} {own : List (Str × Nat)} {pos : Pos} {mi : Res (List D)} {i j l b : Nat} {n m o y : Str} {p q u t : Pos} {kk : Nat}
end
end Lk
namespace Lk
open PySem PySem.Spec PyProof.Rows L2
variable {Fl : Program → World → CXT}
def finO {S B : Type} (m : Res (Out S B O)) : Res O := m >>= fun
  | .rt r => .ok r
  | .ra c _ => .exc c
  | _ => .bug
@[simp] theorem a9u {S B : Type} (r : O) : finO (S := S) (B := B) (.ok (.rt r)) = .ok r := rfl
@[simp] theorem a8f {S B : Type} (c : Nat) : finO (S := S) (B := B) (.exc c) = .exc c := rfl
section
variable {ca : CA} {W : WX} {ρ : Env}
end
section
variable {P : Program} {w : World} {K : PySem.W.Frag} {mg : Str → Option Value} {base : Heap} {ca : CA} {x qual : Str} {params : Arguments} {body : List Stmt} {scope : Scope} {dvs : List V} {kws : List (Str × V)} {f : Addr} {fd : FuncData} {N ps : List Str} {k : Nat}
end
section
variable {X : Cx} {ca : CA} {W : WX} {ρ : Env} {n m : Str} {k : Nat} {dvs : List V} {dds : List D} {o e : Expr} {es : List Expr} {pos apos p : Pos} {mo : Res D} {mas : Res (List D)}
end
section
variable {X : Cx} {ca : CA} {W : WX} {ρ : Env} {i : Nat} {r : Option V} {o : O} {e : Expr}
end
section
variable {X : Cx} {ca : CA} {W : WX} {ρ : Env} {ρx : EX} {S B : Type} {emb : S → Env} {embB : B → Env} {i : Nat} {n : Str} {e e1 e2 : Expr} {pos p0 tp : Pos} {kk : Nat} {ma : Res D} {ml : Res (List D)}
end
end Lk
namespace Lk
open PySem PySem.Spec PyProof.Rows L2
variable {Fl : Program → World → CXT}
def compO (F : D → Res O) : List D → Res (List O)
  | [] => .ok []
  | x :: xs => Res.nox (F x) >>= fun o => compO F xs >>= fun ys => .ok (o :: ys)
@[simp] theorem a5f (F : D → Res O) : compO F [] = .ok [] := rfl
section
variable {K : PySem.W.Frag} {ca : CA} {G H : Hp}
theorem OwL.snoc {v : V} {o : O} {g : AS} (ow : Ow K ca G H v o g) : ∀ {os : List O} {vs : List V} {F : AS}, OwL K ca G H vs os F → (∀ a, F a → g a → False) → OwL K ca G H (vs ++ [v]) (os ++ [o]) (fun a => F a ∨ g a)
  | [], _, F, h, _ => by
    cases h
    exact .cons (F1 := g) (F2 := none_) ow .nil (fun _ _ z => z.elim) (fun _ z => .inr z) fun _ z => z.elim
  | x :: os, _, F, h, d => by
    cases h with
    | @cons _ _ _ _ _ F1 F2 h1 h2 h3 h4 h5 =>
      refine .cons (F1 := F1) (F2 := fun a => F2 a ∨ g a) h1 (OwL.snoc ow h2 fun a z1 z2 => d a (h5 a z1) z2) (fun a z1 z2 => z2.elim (h3 a z1) (d a (h4 a z1))) (fun a z => .inl (h4 a z)) fun a z => z.elim (fun z => .inl (h5 a z)) .inr
end
section
variable {X : Cx} {ca : CA} {W : WX} {ρ : Env} {tg iter elt : Expr} {scope : Scope} {own : List (Str × Nat)} {pos : Pos} {mi : Res (List D)} {F : D → Res O}
variable {i j : Nat} {n y : Str} {p : Pos} {me : D → Res O}
end
section
variable {K : PySem.W.Frag} {ca : CA} {G H : Hp} {p : Addr} {us : List V}
end
section
variable {X : Cx} {ca : CA} {W : WX} {ρ : Env} {i : Nat} {rr : Option V} {xs : List D} {e : Expr}
end
section
variable {X : Cx} {ca : CA} {W : WX} {ρ : Env} {iter elt : Expr} {scope : Scope} {own : List (Str × Nat)} {pos : Pos} {mi : Res (List D)} {i j : Nat} {n y : Str} {p : Pos} {me : D → Res O}
end/-! ### f(path, e, ..), f lent the part -/
section
variable {X : Cx} {ca : CA} {W : WX} {ρ : Env} {ρx : EX} {i k : Nat} {r : Option V} {o : O} {e re : Expr} {es : List Expr} {n : Str} {p pos : Pos} {mπ : Res (List Stp)} {mas : Res (List D)} {α : Type} {out : α → O} {snap : O → List O} {n0 : Nat}
end
end Lk
namespace Lk
open PySem PySem.Spec PyProof.Rows L2
noncomputable section
open PySem.W PySem.Calls HandSHeadRun
end
end Lk
namespace Lk
open PySem PySem.Spec PyProof.Rows L2
section
variable {X : Cx} {ca : CA} {W : WX} {ρ : Env} {e : Expr}
end
section
variable {X : Cx} {ca : CA} {W : WX} {ρ : Env} {ρx : EX} {S S' B T : Type} {emb' : S' → Env} {embB : B → Env} {outR : T → RtP} {e : Expr} {n f : Str} {i : Nat} {p0 pos pos' : Pos} {r : Option V} {o : O} {cs : List Nat} {rest : List Stmt}
end
end Lk
namespace Lk
open PySem PySem.Spec PyProof.Rows L2
variable {Fl : Program → World → CXT}
section
variable {X : Cx} {W : WX} {σ σ' : L2.St} {H H' : Hp} {s s' : Shared} {pins pins' : List (Addr × Obj)} {scope : Scope} {ce : PySem.Env} {fp : List Addr} {elt tg iter : Expr} {ifs : List Expr}
end
section
variable {X : Cx} {W : WX}
end
def compX (F : D → Res (Option D)) : List D → Res (List D)
  | [] => .ok []
  | x :: xs => F x >>= fun o => compX F xs >>= fun ys => .ok (match o with | some y => y :: ys | none => ys)
@[simp] theorem a5g (F : D → Res (Option D)) : compX F [] = .ok [] := rfl
section
variable {X : Cx} {ca : CA} {W W' : WX} {ρ : Env} {tg iter elt : Expr} {ifs : List Expr} {scope : Scope} {own : List (Str × Nat)} {pos : Pos} {mi : Res (List D)} {F : D → Res (Option D)}
variable {i j : Nat} {n y : Str} {p : Pos} {mt : D → Res Bool} {me : D → Res D}
end
end Lk
namespace Lk
open PySem PySem.Spec PyProof.Rows L2
section
variable {X : Cx} {ca : CA} {W : WX} {ρ : Env} {pos p q : Pos} {i : Nat} {n : Str}
end
end Lk
namespace Lk
open PySem PySem.Spec PyProof.Rows L2
section
variable {K : PySem.W.Frag} {ca : CA} {G H : Hp} {F : AS}
def O.lt : O → Bool
  | .oL xs => xs.all fun x => match x with | .ol _ _ => true | _ => false
  | _ => false
end
section
variable {X : Cx} {ca : CA} {W : WX} {ρ : Env} {e : Expr} {i : Nat} {o : O} {α : Type}
end
end Lk
namespace Lk
open PySem PySem.Spec PyProof.Rows L2
section
variable {K : PySem.W.Frag} {ca : CA} {G H : Hp} {σ : L2.St} {ρ : Env} {f : Nat → AS} {i j : Nat}
theorem EnvOk.drop (E : EnvOk K ca G H σ ρ f) : EnvOk K ca G H σ (ρ.set j none) (fun k => if k = j then none_ else f k) := by
  refine ⟨E.sub, fun k o h => ?_, fun k l a h1 h2 => ?_, fun k a h => ?_⟩
  · by_cases e : k = j
    · subst e
      have hl : k < (ρ.set k none).length := (List.getElem?_eq_some_iff.mp h).1
      rw [List.length_set] at hl
      rw [List.getElem?_set_self hl] at h
      cases h
    · rw [List.getElem?_set_ne (Ne.symm e)] at h
      obtain ⟨v, q1, q2⟩ := E.slot k o h
      exact ⟨v, q1, by simpa [e] using q2⟩
  · by_cases e1 : k = j
    · simp only [e1, if_true] at h1
      exact h1.elim
    · by_cases e2 : l = j
      · simp only [e2, if_true] at h2
        exact h2.elim
      · simp only [e1, e2, if_false] at h1 h2
        exact E.sep k l a h1 h2
  · by_cases e : k = j
    · simp only [e, if_true] at h
      exact h.elim
    · simp only [e, if_false] at h
      exact E.out k a h
end
section
variable {X : Cx} {ca : CA} {B T : Type} {W : WX} {ρ : Env} {ρx : EX} {emb : O → Env} {embB : B → Env} {out : T → RtP} {body : List Stmt} {pos : Pos} {step : List D → Res (Out (List D) (List D) T)} {i j : Nat} {n m : Str} {p q : Pos} {o : O}
end
section
variable {X : Cx} {ca : CA} {W : WX} {ρ : Env} {iter elt : Expr} {scope : Scope} {own : List (Str × Nat)} {pos : Pos} {mi : Res (List D)} {i j : Nat} {n y : Str} {p : Pos} {me : D → Res O}
end
end Lk
namespace Lk
open PySem PySem.Spec PyProof.Rows L2
section
variable {P : Program} {w : World} {K : PySem.W.Frag} {mg : Str → Option Value} {base : Heap} {ca : CA} {n m : Str} {k c : Nat} {f C : Addr} {fd : FuncData} {ps : List Str} {sp : Sp} {dvs : List V}
end
section
variable {X : Cx} {ca : CA} {S B T : Type} {W : WX} {ρ : Env} {ρx : EX} {emb : S → Env} {embB : B → Env} {out : T → RtP} {x : Str} {c : Value} {body suite : List Stmt} {b₀ : Stmt} {np pos pos' : Pos} {M : Res (Out S B T)} {Mh : Nat → Res (Out S B T)} {Ms : Nat → List O → Res (Out S B T)} {pp : Nat → Option Bool}
end
end Lk
namespace Lk
open PySem PySem.Spec PyProof.Rows L2
section
variable {X : Cx} {ca : CA} {W : WX} {ρ : Env} {ρx : EX} {S B T : Type} {emb : S → Env} {embB : B → Env} {out : T → RtP} {i : Nat} {rest : List Stmt}
end
end Lk
namespace Lk
open PySem PySem.Spec PyProof.Rows L2
section
variable {X : Cx} {ca : CA} {W : WX} {ρ : Env} {a : Addr} {oe : Obj} {j i : Nat} {tb : Nat → Option Bool} {n n1 : Str} {p1 p0 pos tpos : Pos} {c : V} {cv : Value} {ce : Expr} {ces : List Expr} {kk : Nat}
end
structure FnC (P : Program) (w : World) (K : PySem.W.Frag) (mg : Str → Option Value) (base : Heap) (k : Nat) (f : Addr) (fd : FuncData) (ps : List Str) (sp : Sp) : Prop where
  len : ∀ vs H Q E, sp vs H Q E → vs.length = ps.length
  run : ∀ (A : Around) (outer : List PySem.Env) (s : Shared) (H : Hp) (args : Args) (us : List Value) (vs : List V) (Q : VK) (E : XK), L2H.RoomH k A → Env0 P w K mg base A outer s H → BindsTo s fd args (ps.zip us) → Vals vs us → sp vs H Q E →
    codeAny (model P w) A (.call (.ref f) args) (CR (L2.CX P w) outer P w H s Q E) s
section
variable {P : Program} {w : World} {K : PySem.W.Frag} {mg : Str → Option Value} {base : Heap} {ca : CA} {x qual : Str} {params : Arguments} {body : List Stmt} {scope : Scope} {dvs : List V} {kws : List (Str × V)} {f : Addr} {fd : FuncData} {N ps : List Str} {k : Nat}
end
structure CalE (P : Program) (w : World) (K : PySem.W.Frag) (mg : Str → Option Value) (base : Heap) (n : Str) (k : Nat) (sp : Sp) : Prop where
  ex : ∃ (f : Addr) (fd : FuncData) (ps : List Str), FnC P w K mg base k f fd ps sp ∧ mg n = some (.ref f) ∧ PySem.W.keepIn K (.ref f) = true ∧ Binds K fd ps []
theorem FnC.mono {P : Program} {w : World} {K : PySem.W.Frag} {mg : Str → Option Value} {base : Heap} {j k : Nat} {f : Addr} {fd : FuncData} {ps : List Str} {sp : Sp} (F : FnC P w K mg base j f fd ps sp) (h : j ≤ k) : FnC P w K mg base k f fd ps sp :=
  ⟨F.len, fun A outer s H args us vs Q E hr => F.run A outer s H args us vs Q E (hr.mono h)⟩
def a5h (m : Res D) : Res D := match m with
  | .ok d => .ok d
  | _ => .bug
@[simp] theorem a5i (d : D) : a5h (.ok d) = .ok d := rfl
section
variable {X : Cx} {ca : CA} {W : WX} {ρ : Env} {a : Addr} {oe : Obj} {pn : List (Addr × Obj)} {j i k : Nat} {n y : Str} {p p0 pos : Pos}
end
end Lk
namespace Lk
open PySem PySem.Spec PyProof.Rows L2
section
variable {K : PySem.W.Frag} {ca : CA} {G : Hp} {p : Addr} {us : List V}
end
section
variable {X : Cx} {ca : CA} {W : WX} {ρ : Env} {e : Expr} {i : Nat} {rr : Option V} {xs : List D}
end
def FMbqq {β : Type} (m : O → List D → List D → List D → Res β) : List O → List D → Res β
  | [o, .ol none xs, .ol none ys], ds => m o xs ys ds
  | _, _ => .bug
@[simp] theorem a8g {β : Type} (m : O → List D → List D → List D → Res β) (o : O) (xs ys : List D) (ds : List D) : FMbqq m [o, .ol none xs, .ol none ys] ds = m o xs ys ds := rfl
@[simp] theorem a8h {α S B : Type} {non : Option α} {c : Nat} {o q r : O} {fs : S → List O} : finM (B := B) 3 fs non (.ok (.ra c [o, q, r])) = .ok (.exc c, [o, q, r]) := rfl
def unbqq {α : Type} (k : O → List D → List D → Res α) : List O → Res α
  | [o, .ol none xs, .ol none ys] => k o xs ys
  | _ => .bug
@[simp] theorem a8i {α : Type} (k : O → List D → List D → Res α) (o : O) (xs ys : List D) : unbqq k [o, .ol none xs, .ol none ys] = k o xs ys := rfl
section
variable {X : Cx} {ca : CA} {W : WX} {ρ : Env} {ρx : EX} {α S S' B T : Type} {emb : S → Env} {emb' : S' → Env} {embB : B → Env} {outR : T → RtP} {out : α → O} {e c : Expr} {pos pos' : Pos} {n : Str} {i j l m : Nat} {rest sa sb : List Stmt} {r q t : Option V}
end
end Lk
namespace Lk
open PySem PySem.Spec PyProof.Rows L2
def EO.tell {α S : Type} (os : List O) : Res (EO α S) → Res (EO α S)
  | .exc c => .ok (.ra c os)
  | m => m
@[simp] theorem a5j {α S : Type} (os : List O) (a : EO α S) : EO.tell os (.ok a) = .ok a := rfl
@[simp] theorem a4o {α S : Type} (os : List O) (c : Nat) : EO.tell os (.exc c : Res (EO α S)) = .ok (.ra c os) := rfl
section
variable {X : Cx} {ca : CA} {W : WX} {ρ : Env} {ρx : EX} {S S' B T : Type} {emb : S → Env} {emb' : S' → Env} {embB : B → Env} {outR : T → RtP} {a b : Expr} {es : List Expr} {pos : Pos} {M : Res (EO D S)} {MB : Res (EO Bool S)} {NB : S → Res (EO Bool S)} {mb : S → Res D} {nb : S → Res Bool} {fs : S → List O}
end
end Lk
namespace Lk
open PySem PySem.Spec PyProof.Rows L2
section
variable {X : Cx} {ca : CA} {W : WX} {ρ : Env} {ρx : EX} {S B T : Type} {emb : S → Env} {embB : B → Env} {e e1 e2 a b : Expr} {pos tp : Pos} {kk : Nat} {ma : Res D} {ml : Res (List D)}
variable {M : Res (EO D S)} {mb : S → Res D} {fs : S → List O}
theorem Xv.step {α β : Type} {K : PySem.W.Frag} {out : β → O} {σ : L2.St} {G H G' H' : Hp} {f f' : Nat → AS} {g : AS} {M : Res (EO α S)} {k : EO α S → Res (EO β S)} {x : EO α S} {Q : VK} (z : Xv K ca W ρx emb out σ G H (All f) (M >>= k) Q) (e : M = .ok x) (ev : Evo G H (All f) G' H' (fun y => All f' y ∨ g y)) : Xv K ca W ρx emb out σ G' H' (All f') (k x) Q := by
  have ev' : Evo G H (All f) G' H' (All f') := ev.less fun x z => .inl z
  subst e
  exact ⟨fun q => z.nb q, fun a s q G2 H2 f2 g2 v v2 => z.va a s q G2 H2 f2 g2 v (ev'.trans v2), fun c q G2 H2 f2 v2 => z.ex c q G2 H2 f2 (ev'.trans v2), fun c os q G2 H2 f2 v2 => z.ra c os q G2 H2 f2 (ev'.trans v2)⟩
end
section
variable {Fl : Program → World → CXT}
variable {X : Cx} {ca : CA} {W : WX} {ρ : Env} {m : Str} {k : Nat} {dvs : List V} {dds : List D} {o : Expr} {pos apos : Pos} {mo : Res D}
end
section
variable {X : Cx} {ca : CA} {W : WX} {ρ : Env} {ρx : EX} {j : Nat} {r : Option V} {a b : Expr} {pos : Pos} {MB : Res (EO Bool O)} {NB : O → Res (EO Bool O)} {fs : O → List O}
end
end Lk
namespace Lk
open PySem PySem.Spec PyProof.Rows L2
variable {Fl : Program → World → CXT}
section
variable {K : PySem.W.Frag} {ca : CA} {P : Program} {w : World} {G H : Hp} {h : Heap}
end
section
variable {X : Cx} {ca : CA} {G H : Hp}
end
def kixD {β : Type} (fs : List (D × β)) (d : D) : Option Nat := fs.findIdx? fun p => decide (D.key p.1 = D.key d)
def kvalD {β : Type} (fs : List (D × β)) (d : D) : Option β := (kixD fs d).bind fun j => fs[j]?.map (·.2)
def kputD {β : Type} (fs : List (D × β)) (d : D) (x : β) : List (D × β) := match kixD fs d with
  | some j => fs.modify j fun p => (p.1, x)
  | none => fs ++ [(d, x)]
section
variable {K : PySem.W.Frag} {ca : CA} {G H : Hp}
theorem RK.ix {d : D} {k : NestedKey} (e : D.key d = some k) : ∀ {fs : List (D × D)} {kvs : List (NestedKey × V × V)}, RK K ca G kvs fs → kIx kvs k = kixD fs d
  | [], _, h => by cases h; rfl
  | p :: r, _, h => by
    cases h with
    | cons h0 h1 h2 h3 =>
      have ih := RK.ix e h3
      unfold kIx kixD at ih ⊢
      rw [List.findIdx?_cons, List.findIdx?_cons, h0, e, ih]
      simp [e]
theorem OwK.ix {d : D} {k : NestedKey} (e : D.key d = some k) : ∀ {fs : List (D × O)} {kvs : List (NestedKey × V × V)} {F : AS}, OwK K ca G H kvs fs F → kIx kvs k = kixD fs d
  | [], _, _, h => by cases h; rfl
  | p :: r, _, _, h => by
    cases h with
    | cons h0 h1 h2 h3 =>
      have ih := OwK.ix e h3
      unfold kIx kixD at ih ⊢
      rw [List.findIdx?_cons, List.findIdx?_cons, h0, e, ih]
      simp [e]
theorem RK.length : ∀ {fs : List (D × D)} {kvs : List (NestedKey × V × V)}, RK K ca G kvs fs → kvs.length = fs.length
  | [], _, h => by cases h; rfl
  | _ :: _, _, h => by cases h with | cons h0 h1 h2 h3 => simp [RK.length h3]
theorem OwK.length : ∀ {fs : List (D × O)} {kvs : List (NestedKey × V × V)} {F : AS}, OwK K ca G H kvs fs F → kvs.length = fs.length
  | [], _, _, h => by cases h; rfl
  | _ :: _, _, _, h => by cases h with | cons h0 h1 h2 h3 => simp [OwK.length h3]
theorem RK.get : ∀ {fs : List (D × D)} {kvs : List (NestedKey × V × V)} {j : Nat} {p : D × D}, RK K ca G kvs fs → fs[j]? = some p → ∃ q, kvs[j]? = some q ∧ R K ca G q.2.2 p.2
  | [], _, _, _, _, e => by simp at e
  | p0 :: r, _, 0, p, h, e => by
    cases h with
    | cons h0 h1 h2 h3 =>
      have e' := Option.some.inj (by simpa using e)
      subst e'
      exact ⟨_, rfl, h2⟩
  | p0 :: r, _, j + 1, p, h, e => by
    cases h with
    | cons h0 h1 h2 h3 =>
      obtain ⟨q, z1, z2⟩ := RK.get (j := j) h3 (by simpa using e)
      exact ⟨q, by simpa using z1, z2⟩
theorem OwK.get : ∀ {fs : List (D × O)} {kvs : List (NestedKey × V × V)} {F : AS} {j : Nat}, OwK K ca G H kvs fs F → j < fs.length → ∃ q, kvs[j]? = some q
  | [], _, _, _, _, hj => by simp at hj
  | p0 :: r, _, _, 0, h, hj => by cases h; exact ⟨_, rfl⟩
  | p0 :: r, _, _, j + 1, h, hj => by
    cases h with
    | cons h0 h1 h2 h3 =>
      obtain ⟨q, z⟩ := OwK.get (j := j) h3 (by simpa using hj)
      exact ⟨q, by simpa using z⟩
theorem a11 {β : Type} {fs : List (D × β)} {d : D} {j : Nat} (h : kixD fs d = some j) : j < fs.length := by
  obtain ⟨z, _⟩ := List.findIdx?_eq_some_iff_getElem.mp h
  exact z
theorem RK.val {d : D} {k : NestedKey} {fs : List (D × D)} {kvs : List (NestedKey × V × V)} {x : D} (h : RK K ca G kvs fs) (e : D.key d = some k) (q : kvalD fs d = some x) : ∃ p, kVal kvs k = some p ∧ R K ca G p.2 x := by
  unfold kvalD at q
  unfold kVal
  rw [h.ix e]
  cases e1 : kixD fs d with
  | none => rw [e1] at q; cases q
  | some j =>
    rw [e1, Option.bind_some] at q
    cases e2 : fs[j]? with
    | none => rw [e2] at q; cases q
    | some p =>
      rw [e2] at q
      have e3 : p.2 = x := by simpa using q
      subst e3
      obtain ⟨q', z1, z2⟩ := h.get e2
      exact ⟨q'.2, by rw [Option.bind_some, z1]; rfl, z2⟩
theorem RK.isSome {d : D} {k : NestedKey} {fs : List (D × D)} {kvs : List (NestedKey × V × V)} (h : RK K ca G kvs fs) (e : D.key d = some k) : (kVal kvs k).isSome = (kixD fs d).isSome := by
  unfold kVal
  rw [h.ix e]
  cases e1 : kixD fs d with
  | none => rfl
  | some j =>
    have hj := a11 e1
    rw [← h.length] at hj
    rw [Option.bind_some, List.getElem?_eq_getElem hj]
    rfl
theorem OwK.isSome {d : D} {k : NestedKey} {fs : List (D × O)} {kvs : List (NestedKey × V × V)} {F : AS} (h : OwK K ca G H kvs fs F) (e : D.key d = some k) : (kVal kvs k).isSome = (kixD fs d).isSome := by
  unfold kVal
  rw [h.ix e]
  cases e1 : kixD fs d with
  | none => rfl
  | some j =>
    have hj := a11 e1
    rw [← h.length] at hj
    rw [Option.bind_some, List.getElem?_eq_getElem hj]
    rfl
theorem OwK.val {d : D} {k : NestedKey} {fs : List (D × O)} {kvs : List (NestedKey × V × V)} {F : AS} {j : Nat} (h : OwK K ca G H kvs fs F) (e : D.key d = some k) (q : kixD fs d = some j) : ∃ p, kVal kvs k = some p.2 ∧ kvs[j]? = some p := by
  obtain ⟨p, z⟩ := h.get (a11 q)
  exact ⟨p, by unfold kVal; rw [h.ix e, q, Option.bind_some, z]; rfl, z⟩
theorem OwK.modify {v : V} {x : O} {g : AS} (ow : Ow K ca G H v x g) : ∀ {fs : List (D × O)} {kvs : List (NestedKey × V × V)} {F : AS} {j : Nat}, OwK K ca G H kvs fs F → (∀ a, F a → g a → False) → OwK K ca G H (kvs.modify j fun p => (p.1, p.2.1, v)) (fs.modify j fun p => (p.1, x)) (fun a => F a ∨ g a)
  | [], _, F, j, h, _ => by cases h; cases j <;> exact .nil
  | p :: r, _, F, 0, h, dj => by
    cases h with
    | cons h0 hr h1 h2 h3 h4 h5 => exact .cons h0 hr ow h2 (fun a z y => dj a (h5 a y) z) (fun a z => .inr z) fun a z => .inl (h5 a z)
  | p :: r, _, F, j + 1, h, dj => by
    cases h with
    | cons h0 hr h1 h2 h3 h4 h5 => exact .cons h0 hr h1 (OwK.modify (j := j) ow h2 fun a z y => dj a (h5 a z) y) (fun a z y => y.elim (h3 a z) (dj a (h4 a z))) (fun a z => .inl (h4 a z)) fun a z => z.elim (fun z => .inl (h5 a z)) .inr
theorem OwK.snoc {v kv : V} {d : D} {k : NestedKey} {x : O} {g : AS} (e : D.key d = some k) (rk : R K ca G kv d) (ow : Ow K ca G H v x g) : ∀ {fs : List (D × O)} {kvs : List (NestedKey × V × V)} {F : AS}, OwK K ca G H kvs fs F → (∀ a, F a → g a → False) → OwK K ca G H (kvs ++ [(k, kv, v)]) (fs ++ [(d, x)]) (fun a => F a ∨ g a)
  | [], _, F, h, _ => by cases h; exact .cons e rk ow (.nil (F := none_)) (fun a _ z => z) (fun a z => .inr z) fun a z => z.elim
  | p :: r, _, F, h, dj => by
    cases h with
    | cons h0 hr h1 h2 h3 h4 h5 => exact .cons h0 hr h1 (OwK.snoc e rk ow h2 fun a z y => dj a (h5 a z) y) (fun a z y => y.elim (h3 a z) (dj a (h4 a z))) (fun a z => .inl (h4 a z)) fun a z => z.elim (fun z => .inl (h5 a z)) .inr
theorem OwK.put {v kv : V} {d : D} {k : NestedKey} {x : O} {g F : AS} {fs : List (D × O)} {kvs : List (NestedKey × V × V)} (h : OwK K ca G H kvs fs F) (e : D.key d = some k) (rk : R K ca G kv d) (ow : Ow K ca G H v x g) (dj : ∀ a, F a → g a → False) : OwK K ca G H (kPut kvs k kv v) (kputD fs d x) (fun a => F a ∨ g a) := by
  unfold kPut kputD
  rw [h.ix e]
  cases kixD fs d with
  | none => exact OwK.snoc e rk ow h dj
  | some j => exact OwK.modify ow h dj
end
def D.kin : D → D → Res D
  | y, .kd fs => match D.key y with
    | none => .bug
    | some _ => .ok (.bl (kixD fs y).isSome)
  | _, _ => .bug
section
variable {X : Cx} {ca : CA} {W : WX} {ρ : Env} {ρx : EX} {i : Nat} {n : Str} {r : Option V} {o : O} {e b : Expr} {pos p0 : Pos} {mπ : Res (List Stp)} {me mb : Res D}
end
def O.kdv (o : O) (π : List Stp) : Res (List (D × O)) := match O.at o π with
  | some (.kd fs) => .ok fs
  | _ => .bug
def O.kin (o : O) (π : List Stp) (y : D) : Res Bool := O.kdv o π >>= fun fs => match D.key y with
  | some _ => .ok (kixD fs y).isSome
  | none => .bug
section
variable {X : Cx} {ca : CA} {W : WX} {ρ : Env} {ρx : EX} {i : Nat} {n : Str} {r : Option V} {o : O} {e b : Expr} {pos p0 : Pos} {mπ : Res (List Stp)} {me mb : Res D}
end
end Lk
namespace Lk
open PySem PySem.Spec PyProof.Rows L2
variable {Fl : Program → World → CXT}
theorem RK.key {K : PySem.W.Frag} {ca : CA} {G : Hp} : ∀ {fs : List (D × D)} {kvs : List (NestedKey × V × V)} {j : Nat} {p : NestedKey × V × V}, RK K ca G kvs fs → kvs[j]? = some p → ∃ q, fs[j]? = some q ∧ R K ca G p.2.1 q.1
  | [], _, _, _, h, e => by cases h; simp at e
  | p0 :: r, _, 0, p, h, e => by
    cases h with
    | cons h0 h1 h2 h3 =>
      have e' := Option.some.inj (by simpa using e)
      subst e'
      exact ⟨_, rfl, h1⟩
  | p0 :: r, _, j + 1, p, h, e => by
    cases h with
    | cons h0 h1 h2 h3 =>
      obtain ⟨q, z1, z2⟩ := RK.key (j := j) h3 (by simpa using e)
      exact ⟨q, by simpa using z1, z2⟩
def D.keys : D → Res (List D)
  | .kd fs => .ok (fs.map (·.1))
  | _ => .bug
section
variable {X : Cx} {ca : CA} {W : WX} {ρ : Env} {ρx : EX} {i : Nat} {n : Str} {r : Option V} {o : O} {e b re tg kx vx : Expr} {pos p0 pos' : Pos} {mπ : Res (List Stp)} {ma mb mk mv : Res D}
theorem Cr.held {α : Type} {K : PySem.W.Frag} {σ : L2.St} {Hb G H : Hp} {m : Res α} {P : α → Hp → Hp → Prop} {u : HO} {p : Addr} (c : Cr K ca W ρ σ Hb G H m P) (hp : H p = none) (nt : ∀ ps, u ≠ .tbl ps) :
    Cr K ca W ρ σ (upd Hb p u) G (upd H p u) m (fun a G1 H1 => m = .ok a ∧ G1 p = none ∧ H1 p = some u ∧ ∀ u', (∀ ps, u' ≠ .tbl ps) → Gb Hb G H G1 (upd H1 p u')) := by
  obtain ⟨f, E, hf⟩ := c.env
  have hbp : Hb p = none := c.sb p hp
  have gp : G p = none := E.sub.toSub.free hp
  have s0 : Same H (upd H p u) := fun a v z => by
    rw [upd_ne (fun q => by rw [q, hp] at z; cases z)]; exact z
  have g0 : Gb Hb G H G (upd H p u) := Gb.own E.sub.toSub hp
  have conv : ∀ {G1 H1 : Hp}, Gb (upd Hb p u) G (upd H p u) G1 H1 → Gb Hb G H G1 H1 := fun {G1 H1} g => ⟨g.g, g.sub, (Sm.of (Same.refl _) s0).trans g.g g.h, fun a v z => (g.new a v z).elim .inl fun q => .inr (by
    by_cases e : a = p
    · rw [e]; exact hbp
    · rw [upd_ne e] at q; exact q)⟩
  refine ⟨fun a z => ?_, ⟨f, E.gb hf g0, fun i a z => ?_⟩, c.nb, fun a e G1 H1 g1 => ?_, fun cc e G1 H1 g1 => c.ex cc e G1 H1 (conv g1)⟩
  · by_cases q : a = p
    · subst q; rw [upd_same] at z; cases z
    · rw [upd_ne q] at z ⊢; exact c.sb _ z
  · obtain ⟨v, q⟩ := hf i a z
    exact ⟨v, by rw [upd_ne (fun q2 => by rw [q2, hbp] at q; cases q)]; exact q⟩
  · have hp1 : H1 p = some u := g1.h.k p u upd_same nt
    have g1p : G1 p = none := by
      cases z : G1 p with
      | none => rfl
      | some v =>
        rcases g1.new p v z with q | q
        · rw [gp] at q; cases q
        · rw [upd_same] at q; cases q
    refine ⟨e, g1p, hp1, fun u' nt' => ⟨g1.g, ⟨fun a v z => ?_, g1.sub.n⟩, (conv g1).h.upd hp hp1 nt, (conv g1).new⟩⟩
    rw [upd_ne (fun q => by rw [q, g1p] at z; cases z)]; exact g1.sub _ _ z
end
section
variable {X : Cx} {ca : CA} {W : WX} {ρ : Env} {ρx : EX} {i : Nat} {n : Str} {r : Option V} {o : O} {e b re : Expr} {pos p0 pos' : Pos} {mπ : Res (List Stp)} {mb : Res D} {α S S' B T : Type} {emb : S' → Env} {embB : B → Env} {outR : T → RtP} {out : α → O} {rest : List Stmt} {σ : L2.St} {G H : Hp} {f : Nat → AS} {D0 : Ends}
end
end Lk
namespace Lk
open PySem PySem.Spec PyProof.Rows L2
variable {Fl : Program → World → CXT}
section
variable {X : Cx} {ca : CA} {W : WX} {ρ : Env} {ρx : EX} {S : Type} {emb : S → Env} {a b : Expr} {es : List Expr} {pos : Pos}
end
section
open NdefX LamX
variable {X : Cx} {pins : List (Addr × Obj)} {σ : L2.St} {H : Hp} {s : Shared}
structure NdSt (X : Cx) (st : Stmt) (nd : NDf) (pos : Pos) : Prop where
  st : st = .FunctionDef nd.name nd.params nd.body [] none [] nd.scope none nd.name pos
  q : nd.qual = X.env.qual ++ nd.name
  free : ∀ y ∈ nd.scope.names, y.2 = .free → X.env.scope.names.lookup y.1 = some .cell ∨ X.env.scope.names.lookup y.1 = some .free
  d0 : nd.params.defaults = []
  k0 : nd.params.kw_defaults = []
  ha : annTrees nd.params none X.env = []
end
section
open NdefX LamX
variable {X : Cx} {ca : CA} {S B T : Type} {W : WX} {ρ : Env} {ρx : EX} {emb : S → Env} {embB : B → Env} {out : T → RtP} {rest : List Stmt} {n i : Nat} {c P : Addr} {pos : Pos} {st : Stmt} {nd : NDf}
end
def spN (K : PySem.W.Frag) (ca : CA) (np : Nat) (F : List D → Res D) : List (Option V) → Sp := fun ows vs H Q E => vs.length = np ∧ ∃ us, ows = us.map some ∧ spD K ca F (vs ++ us) H Q E
section
variable {P : Program} {w : World} {K : PySem.W.Frag} {mg : Str → Option Value} {base : Heap} {ca : CA} {nd : NDf} {cl : List (Str × Addr)} {c' f : Addr} {N : List Str} {k : Nat}
end
end Lk
namespace Lk
open PySem PySem.Spec PyProof.Rows L2
variable {Fl : Program → World → CXT}
abbrev CM := Addr → Option Obj
def addC (C : CM) (H : Hp) : Hp := fun a => match C a with
  | some o => some (CellO o)
  | none => H a
section
variable {C : CM} {G H G' H' : Hp} {a : Addr} {o : Obj} {u : HO}
theorem a2w (h : C a = some o) : addC C H a = some (CellO o) := by unfold addC; rw [h]
theorem a3c (h : C a = none) : addC C H a = H a := by unfold addC; rw [h]
def Has (C : CM) (H : Hp) : Prop := ∀ a o, C a = some o → H a = some (CellO o)
def Off (C : CM) (H : Hp) : Prop := ∀ a o, C a = some o → H a = none
theorem Has.out (c : Has C H) (h : H a = some u) (n : ∀ o, u ≠ CellO o) : C a = none := by
  cases e : C a with
  | none => rfl
  | some o => rw [c a o e] at h; exact (n o (Option.some.inj h).symm).elim
theorem Has.none (c : Has C H) (h : H a = none) : C a = none := by
  cases e : C a with
  | none => rfl
  | some o => rw [c a o e] at h; cases h
theorem Off.out (c : Off C H) (h : H a = some u) : C a = none := by
  cases e : C a with
  | none => rfl
  | some o => rw [c a o e] at h; cases h
theorem a03 (c : Off C H) : Same H (addC C H) := fun a u h => by rw [a3c (c.out h)]; exact h
section
variable {P : Program} {w : World} {h h' B : Heap}
end
section
variable {P : Program} {w : World} {K : PySem.W.Frag} {mg : Str → Option Value} {base : Heap} {A : Around} {outer : List PySem.Env} {s s' : Shared} {E : XK} {Q : VK} {v : Value}
end
section
variable {ca : CA}
end
end
mutual
def D.nofn : D → Bool
  | .any => false
  | .fn _ _ => false
  | .lst xs => D.nofnL xs
  | .tup xs => D.nofnL xs
  | .ins _ fs => D.nofnF fs
  | .dic fs => D.nofnF fs
  | .kd fs => D.nofnK fs
  | _ => true
def D.nofnL : List D → Bool
  | [] => true
  | x :: xs => D.nofn x && D.nofnL xs
def D.nofnF : List (Str × D) → Bool
  | [] => true
  | (_, x) :: xs => D.nofn x && D.nofnF xs
def D.nofnK : List (D × D) → Bool
  | [] => true
  | (k, x) :: xs => D.nofn k && (D.nofn x && D.nofnK xs)
end
section
variable {K : PySem.W.Frag} {ca : CA} {C : CM} {G : Hp}
theorem R.add (c : Off C G) {d : D} {v : V} (h : R K ca G v d) : R K ca (addC C G) v d := h.mono (a03 c)
end
end Lk
namespace Lk
open PySem PySem.Spec PyProof.Rows L2
variable {Fl : Program → World → CXT}
def D.nf (d : D) : Res D := if D.nofn d = true then .ok d else .bug
abbrev NTab := Nat → Option (Nat × (List D → Res D))
structure NCal (P : Program) (w : World) (K : PySem.W.Frag) (mg : Str → Option Value) (base : Heap) (ca : CA) (k : Nat) (NT : NTab) : Prop where
  ex : ∀ n np F, NT n = some (np, F) → ∃ nd, ca.nf n = some nd ∧ nd.ps.length = np ∧ ∀ (f : Addr) (cl : List (Str × Addr)) (c : Addr), NdefX.NOk P w K mg base (L2.CX P w) k f (nd.at_ cl c) nd.ps nd.fr (spN K ca np F)
section
variable {G H : Hp} {cl : List (Str × Addr)} {a : Addr} {o : Obj} {fr : List Str} {vs : List V} {h : Heap} {P : Program} {w : World}
theorem CellsG.length (c : CellsG G cl fr vs) : vs.length = fr.length := by
  induction c with
  | nil => rfl
  | cons _ _ _ _ _ ih => simp [ih]
theorem CellsG.get {i : Nat} {y : Str} (c : CellsG G cl fr vs) (e : fr[i]? = some y) : ∃ d o v u, cl.lookup y = some d ∧ G d = some (CellO o) ∧ o.data = .cell (some u) ∧ vs[i]? = some v ∧ RelV v u := by
  induction c generalizing i with
  | nil => simp at e
  | cons q1 q2 q3 q4 _ ih =>
    cases i with
    | zero =>
      have e' := Option.some.inj (by simpa using e)
      subst e'
      exact ⟨_, _, _, _, q1, q2, q3, rfl, q4⟩
    | succ i => simpa using ih (by simpa using e)
theorem a2x {C : CM} {L : Hp} (ca : NdefX.CellsAt cl fr (vs.map some) h L) (hC : ∀ y c o, cl.lookup y = some c → h.get? c = some o → C c = some o) : CellsG (addC C G) cl fr vs := by
  obtain ⟨hl, _, _, has⟩ := ca
  have go : ∀ {fr : List Str} {vs : List V}, vs.length = fr.length → (∀ (i : Nat) (y : Str), fr[i]? = some y → ∃ c, cl.lookup y = some c ∧ ∀ v, (vs.map some)[i]? = some (some v) → ∃ u, RelV v u ∧ h.IsCell c (some u)) → CellsG (addC C G) cl fr vs := by
    intro fr
    induction fr with
    | nil =>
      intro vs hl _
      cases vs with
      | nil => exact .nil
      | cons _ _ => simp at hl
    | cons y fr ih =>
      intro vs hl has
      cases vs with
      | nil => simp at hl
      | cons v vs =>
        obtain ⟨c, q1, q2⟩ := has 0 y rfl
        obtain ⟨u, q3, o, q4, q5⟩ := q2 v rfl
        exact .cons q1 (a2w (hC y c o q1 q4)) q5 q3 (ih (by simpa using hl) fun i y e => by simpa using has (i + 1) y (by simpa using e))
  exact go (by simpa using hl) has
end
section
variable {X : Cx} {ca : CA} {W : WX} {ρ : Env} {i k : Nat} {x n : Str} {p pos : Pos} {e : Expr} {es : List Expr} {fv : D} {mas : Res (List D)} {NT : NTab}
end
structure Cpt (X : Cx) (ρ : Env) (nd : NDf) (js : List Nat) (ws : List D) : Prop where
  free : ∀ y ∈ nd.scope.names, y.2 = .free → X.env.scope.names.lookup y.1 = some .cell ∨ X.env.scope.names.lookup y.1 = some .free
  fr : ∀ y ∈ nd.fr, (y, NameKind.free) ∈ nd.scope.names
  at_ : js.map (fun j => X.N[j]?) = nd.fr.map some
  ws : js.map (fun j => ρ[j]?) = ws.map fun w => some (some (.d w))
section
variable {X : Cx} {ca : CA} {W : WX} {ρ : Env} {G H : Hp} {σ : L2.St} {f : Nat → AS} {nd : NDf} {js : List Nat} {ws : List D}
theorem a19 (E : EnvOk X.K ca G H σ ρ f) : ∀ {js : List Nat} {ws : List D}, js.map (fun j => ρ[j]?) = ws.map (fun w => some (some (.d w))) → ∃ us, js.map (NdefX.slotAt σ) = us.map some ∧ RL X.K ca G us ws
  | [], [], _ => ⟨[], rfl, .nil⟩
  | [], _ :: _, h => by simp at h
  | _ :: _, [], h => by simp at h
  | j :: js, w :: ws, h => by
    simp only [List.map_cons, List.cons.injEq] at h
    obtain ⟨v, q1, q2⟩ := E.slot j _ h.1
    obtain ⟨us, z1, z2⟩ := a19 E h.2
    cases q2 with
    | d r => exact ⟨v :: us, by rw [List.map_cons, List.map_cons, NdefX.slotAt_of q1, z1], .cons r z2⟩
theorem Cpt.caps (c : Cpt X ρ nd js ws) (ok : X.Ok) : NdefX.Caps X (cloFrom X.env.cells nd.scope.names []) nd.fr js := NdefX.Caps.made ok c.free c.fr c.at_
end
section
variable {X : Cx} {ca : CA} {W : WX} {ρ : Env} {i k nn np : Nat} {x n : Str} {p pos : Pos} {e : Expr} {es : List Expr} {z : D} {mas : Res (List D)} {nd : NDf} {js : List Nat} {ws : List D} {F : List D → Res D}
theorem a5k {K : PySem.W.Frag} {G : Hp} {v : V} {cl : List (Str × Addr)} (h : R K ca G v (.fn nn (.any :: encC cl))) (hnf : ca.nf nn = some nd) : ∃ f c, v = .ref f ∧ G f = some (NdefX.FnO f (nd.at_ cl c)) ∧ G c = some (LamX.CodeO c nd.qual) := by
  generalize ew : (D.any :: encC cl) = ws at h
  cases h with
  | fn h0 => exact (h0 _ ew.symm).elim
  | exn _ _ =>
    cases cl with
    | nil => cases ew
    | cons p q => simp [encC] at ew
  | @fnl f c _ nd' cl' h1 h2 h3 =>
    simp only [List.cons.injEq, true_and] at ew
    have e2 := a14 ew
    subst e2
    rw [hnf] at h1
    cases h1
    exact ⟨f, c, rfl, h2, h3⟩
end
inductive RLc (X : Cx) (ca : CA) (ρ : Env) (G : Hp) : List V → List D → Prop
  | nil : RLc X ca ρ G [] []
  | d {v : V} {vs : List V} {d : D} {ds : List D} : R X.K ca G v d → RLc X ca ρ G vs ds → RLc X ca ρ G (v :: vs) (d :: ds)
  | f {v : V} {vs : List V} {ds : List D} {nn : Nat} {nd : NDf} {js : List Nat} {ws : List D} : ca.nf nn = some nd → R X.K ca G v (.fn nn (.any :: encC (cloFrom X.env.cells nd.scope.names []))) → Cpt X ρ nd js ws → D.nofnL ws = true → RLc X ca ρ G vs ds → RLc X ca ρ G (v :: vs) (.fn nn ws :: ds)
section
variable {X : Cx} {ca : CA} {W : WX} {ρ : Env} {i k nn : Nat} {x n : Str} {p pos p0 : Pos} {e : Expr} {es : List Expr} {z : D} {ma : Res D} {mas : Res (List D)} {nd : NDf} {js : List Nat} {ws : List D} {F : List D → Res D}
theorem RLc.mono {G G' : Hp} (s : Same G G') {vs : List V} {ds : List D} (h : RLc X ca ρ G vs ds) : RLc X ca ρ G' vs ds := by
  induction h with
  | nil => exact .nil
  | d h1 _ ih => exact .d (h1.mono s) ih
  | f h1 h2 h3 h4 _ ih => exact .f h1 (h2.mono s) h3 h4 ih
open Classical in
noncomputable def cmX (X : Cx) (h : Heap) : CM := fun a => if ∃ x, X.env.cells.lookup x = some a then h.get? a else none
theorem a3r {h : Heap} {a : Addr} {o : Obj} {x : Str} (q : X.env.cells.lookup x = some a) (e : h.get? a = some o) : cmX X h a = some o := by
  unfold cmX
  rw [if_pos ⟨x, q⟩]; exact e
theorem RLc.add {pins : List (Addr × Obj)} {σ : L2.St} {G H : Hp} {s : Shared} {f : Nat → AS} (I : Inv X pins σ H s) (E : EnvOk X.K ca G H σ ρ f) (off : Off (cmX X s.heap) G) {vs : List V} {ds : List D} (h : RLc X ca ρ G vs ds) : RL X.K ca (addC (cmX X s.heap) G) vs ds := by
  induction h with
  | nil => exact .nil
  | d h1 _ ih => exact .cons (h1.add off) ih
  | @f v vs ds nn nd js ws h1 h2 h3 h4 _ ih =>
    obtain ⟨fa, c, ev, g1, g2⟩ := a5k h2 h1
    subst ev
    obtain ⟨us, e1, e2⟩ := a19 E h3.ws
    have cp := h3.caps I.ok
    have ce := NdefX.cells_of I cp
    rw [e1] at ce
    refine .cons (.fn (fun r e => ?_) h1 (a03 off _ _ g1) (a03 off _ _ g2) (fun y d q => ?_) (fun x y d q1 q2 => I.ok.inj x y d (cp.sub x d q1) (cp.sub y d q2)) (a2x ce fun y c o q g => a3r (cp.sub y c q) g) (e2.mono (a03 off))) ih
    · rw [e] at h4; simp [D.nofnL, D.nofn] at h4
    · obtain ⟨v, o, ho, hd⟩ := I.cell y d (cp.sub y d q)
      exact ⟨o, v, a2w (a3r (cp.sub y d q) ho), hd⟩
end
end Lk
namespace Lk
open PySem PySem.Spec PyProof.Rows L2
variable {Fl : Program → World → CXT}
section
variable {P : Program} {w : World} {K : PySem.W.Frag} {mg : Str → Option Value} {base : Heap} {ca : CA} {x qual : Str} {params : Arguments} {body : List Stmt} {scope : Scope} {dvs : List V} {kws : List (Str × V)} {f : Addr} {fd : FuncData} {N ps : List Str} {k : Nat}
structure TbF (base : Heap) (mg : Str → Option Value) (ca : CA) (fd : FuncData) : Prop where
  ex : ∃ c Pt, fd.code = .ref c ∧ LamX.TabB base mg c Pt ∧ Pt ∈ ca.tabs
end
end Lk
namespace Lk
open PySem PySem.Spec PyProof.Rows L2
variable {Fl : Program → World → CXT}
structure SaysZ (fa : List He.Fa) (fn : List He.DefD) (tf : List He.Defn) (ex : PySem.W.Frag → Bool) (h : Heap) (K : PySem.W.Frag) : Prop where
  t : He.SaysD fa fn K
  more : ex K = true
  hd : ∀ p ∈ tf, PySem.W.codeHdIn K (He.cT K p).1 (He.cT K p).2 = true
  out : ∀ p ∈ tf, K.lookup (He.cT K p).2 = none
  empty : ∀ p ∈ tf, h.get? (He.cT K p).2 = some { cls := .none, data := .fields #[] }
noncomputable section
open PySem.W PySem.Calls HandSHeadRun
end
end Lk
namespace Lk
open PySem PySem.Spec PyProof.Rows L2 NdefX
section
variable {M : Model} {A : Around} {E : Value → Shared → Prop} {s₀ s : Shared} {m cm : Str → Option Value} {env : PySem.Env} {cs : List (Str × Addr)}
end
structure NScope2 (N ps fr : List Str) (sc : Scope) : Prop where
  kind : sc.kind = .function
  co : sc.isCoroutine = false
  gen : sc.isGenerator = false
  nd : N.Nodup
  pre : N.take (ps.length + fr.length) = ps ++ fr
  par : ∀ x ∈ ps, sc.names.lookup x = some .local ∨ sc.names.lookup x = some .cell
  free : ∀ y ∈ sc.names, y.2 = .free → y.1 ∈ fr
  frk : ∀ x ∈ fr, sc.names.lookup x = some .free
  frc : ∀ x ∈ fr, (x, NameKind.cell) ∉ sc.names
section
variable {CX : CXT} {P : Program} {w : World} {K : PySem.W.Frag} {mg : Str → Option Value} {base : Heap} {N ps fr : List Str} {F : NF} {f : Addr} {A : Around} {outer : List PySem.Env} {s s1 : Shared} {H : Hp} {E : XK} {us : List Value} {vs : List V} {ws : List (Option V)}
end
section
variable {CX : CXT} {P : Program} {w : World} {K : PySem.W.Frag} {mg : Str → Option Value} {base : Heap} {N ps fr : List Str} {F : NF} {f : Addr} {k j : Nat} {sp sp' : List (Option V) → Sp}
end
section
variable {Fl : Program → World → CXT} {P : Program} {w : World} {K : PySem.W.Frag} {mg : Str → Option Value} {base : Heap} {ca : CA} {nd : NDf} {cl : List (Str × Addr)} {c' f : Addr} {N : List Str} {k : Nat}
end
end Lk
namespace Lk
open PySem PySem.Spec PyProof.Rows L2
section
variable {X : Cx} {ca : CA} {W : WX} {ρ : Env} {ρx : EX} {S B : Type} {emb : S → Env} {embB : B → Env} {i : Nat} {n : Str} {e e1 e2 : Expr} {pos p0 tp : Pos} {kk : Nat} {ma : Res D} {ml : Res (List D)}
end
section
variable {X : Cx} {ca : CA} {S B T : Type} {W : WX} {ρ : Env} {ρx : EX} {emb : S → Env} {embB : B → Env} {out : T → RtP} {re : Expr} {rest : List Stmt} {i : Nat} {r : Option V} {o : O} {mπ : Res (List Stp)}
end
end Lk
namespace Lk
open PySem PySem.Spec PyProof.Rows L2
def O.take (o : O) (π : List Stp) : Res (EO O O) := match O.at o π with
  | some o1 => .ok (.va o1 (O.put (.d .any) o π))
  | none => .bug
section
variable {X : Cx} {ca : CA} {W : WX} {ρ : Env} {ρx : EX} {i : Nat} {n : Str} {r : Option V} {o : O} {e : Expr} {es : List Expr} {pos p0 : Pos} {mπ : Res (List Stp)} {S S' α : Type} {emb : S → Env} {emb' : S' → Env} {out : α → O}
structure XvL (K : PySem.W.Frag) (ca : CA) (W : WX) (ρx : EX) {S : Type} (emb : S → Env) (σ : L2.St) (G H : Hp) (F : AS) (M : Res (EO (List O) S)) (Q : List V → Hp → Prop) : Prop where
  nb : M ≠ .bug
  va : ∀ os s, M = .ok (.va os s) → ∀ G' H' f' g vs, Evo G H F G' H' (fun x => All f' x ∨ g x) → EnvOk K ca G' H' σ (emb s) f' → OwL K ca G' H' vs os g → Fr f' g G' H' → Q vs H'
  ex : ∀ c, M = .exc c → ∀ G' H' f', Evo G H F G' H' (All f') → EnvOk K ca G' H' σ ρx.e f' → W (.ref (ca c)) none σ H'
  ra : ∀ c os, M = .ok (.ra c os) → ∀ G' H' f', Evo G H F G' H' (All f') → EnvOk K ca G' H' σ (ρx.emb os) f' → W (.ref (ca c)) none σ H'
end
mutual
def O.nfo : O → Bool
  | .d x => D.nofn x
  | .ol none xs => D.nofnL xs
  | .ot xs => O.nfoL xs
  | .oL xs => O.nfoL xs
  | _ => false
def O.nfoL : List O → Bool
  | [] => true
  | x :: r => O.nfo x && O.nfoL r
end
def O.nf (o : O) : Res O := if O.nfo o = true then .ok o else .bug
section
variable {K : PySem.W.Frag} {ca : CA} {C : CM} {G H : Hp}
end
section
variable {X : Cx} {ca : CA} {W : WX} {ρ : Env} {k : Nat} {n : Str} {p pos : Pos} {e : Expr} {es : List Expr} {mas : Res (List D)} {F : List D → Res O}
end
end Lk
namespace Lk
open PySem PySem.Spec PyProof.Rows L2
section
variable {K : PySem.W.Frag} {ca : CA} {G H : Hp}
theorem OwL.cut : ∀ {xs : List O} {vs : List V} {F : AS} (n : Nat), OwL K ca G H vs xs F → ∃ F1 F2, OwL K ca G H (vs.take n) (xs.take n) F1 ∧ OwL K ca G H (vs.drop n) (xs.drop n) F2 ∧ (∀ a, F1 a → F2 a → False) ∧ (∀ a, F1 a → F a) ∧ (∀ a, F2 a → F a)
  | xs, vs, F, 0, h => ⟨none_, F, .nil, h, fun _ z => z.elim, fun _ z => z.elim, fun _ z => z⟩
  | [], _, F, n + 1, h => by cases h; exact ⟨none_, none_, .nil, .nil, fun _ z => z.elim, fun _ z => z.elim, fun _ z => z.elim⟩
  | x :: r, _, F, n + 1, h => by
    cases h with
    | @cons v vs _ _ _ A B h1 h2 h3 h4 h5 =>
      obtain ⟨F1, F2, a, b, c, d, e⟩ := OwL.cut n h2
      exact ⟨fun a => A a ∨ F1 a, F2, .cons h1 a (fun x z y => h3 x z (d x y)) (fun x z => .inl z) (fun x z => .inr z), b, fun x z y => z.elim (fun z => h3 x z (e x y)) (fun z => c x z y), fun x z => z.elim (h4 x) (fun z => h5 x (d x z)), fun x z => h5 x (e x z)⟩
end
section
variable {X : Cx} {ca : CA} {W : WX} {ρ : Env} {i : Nat} {r : Option V} {o : O}
end
section
variable {X : Cx} {ca : CA} {S B T : Type} {W : WX} {ρ : Env} {ρx : EX} {emb : S → Env} {embB : B → Env} {out : T → RtP} {re re2 e e1 e2 b : Expr} {rest : List Stmt} {i : Nat} {r : Option V} {o : O} {mπ mπ2 : Res (List Stp)} {mo : Res O} {ma m1 m2 mb : Res D} {pos : Pos}
end
section
variable {X : Cx} {ca : CA} {W : WX} {ρ : Env} {e : Expr} {ma : Res D} {k : Nat} {p1 p2 p3 pos : Pos}
end
end Lk
namespace Lk
open PySem PySem.Spec PyProof.Rows L2
section
variable {X : Cx} {ca : CA} {S : Type} {W : WX} {ρ : Env} {ρx : EX} {emb : S → Env} {k : Nat} {n : Str} {p pos : Pos} {e : Expr} {es : List Expr}
end
end Lk
namespace Lk
open PySem PySem.Spec PyProof.Rows L2
section
variable {X : Cx} {ca : CA} {W : WX} {ρ : Env} {ρx : EX} {α S' B T : Type} {emb' : S' → Env} {embB : B → Env} {outR : T → RtP} {out : α → O} {e : Expr} {pos : Pos} {j l : Nat} {rest : List Stmt} {r q : Option V}
end
end Lk
namespace Lk
open PySem PySem.Spec PyProof.Rows L2
section
variable {X : Cx} {ca : CA} {S B T : Type} {W : WX} {ρ : Env} {ρx : EX} {emb : S → Env} {embB : B → Env} {out : T → RtP} {e re : Expr} {rest : List Stmt} {mx : Res (List D)} {ma : Res D}
end
end Lk
namespace Lk
open PySem PySem.Spec PyProof.Rows L2
noncomputable section
open PySem.W PySem.Calls HandSHeadRun
end
end Lk
namespace Lk
open PySem PySem.Spec PyProof.Rows L2
end Lk
namespace Lk
open PySem PySem.Spec PyProof.Rows L2
section
variable {X : Cx} {ca : CA} {W : WX} {ρ : Env} {ρx : EX} {S : Type} {emb : S → Env} {a b : Expr} {pos : Pos} {M : Res (EO D S)} {mb : S → Res D} {fs : S → List O}
end
end Lk
namespace Lk
open PySem PySem.Spec PyProof.Rows L2
section
variable {X : Cx} {ca : CA} {W : WX} {ρ : Env} {i : Nat} {r : Option V} {o : O} {e : Expr} {α : Type}
end
end Lk
namespace Lk
open PySem PySem.Spec PyProof.Rows L2
section
variable {α : Type} {K : PySem.W.Frag} {ca : CA} {W : WX} {ρ : Env} {σ : L2.St} {Hb G H G1 H1 : Hp} {m : Res α} {P : α → Hp → Hp → Prop}
theorem Cr.mv (h : Cr K ca W ρ σ Hb G H m P) (g : Gb Hb G H G1 H1) : Cr K ca W ρ σ Hb G1 H1 m P := by
  obtain ⟨f, E, hf⟩ := h.env
  exact ⟨h.sb.trans g.h.fr, ⟨f, E.gb hf g, hf⟩, h.nb, fun a e G' H' g' => h.ok a e G' H' (g.trans g'), fun c e G' H' g' => h.ex c e G' H' (g.trans g')⟩
end
section
variable {X : Cx} {ca : CA} {W : WX} {ρ : Env} {e1 e2 b : Expr} {m1 m2 : Res (List D)} {mb : Res D} {pos lpos : Pos}
end
end Lk
namespace Lk
open PySem PySem.Spec PyProof.Rows L2
section
variable {X : Cx} {ca : CA} {W : WX} {ρ : Env} {ρx : EX} {i : Nat} {r : Option V} {o o1 : O} {α : Type} {out : α → O} {snap : O → List O} {n0 : Nat}
end
section
variable {Fl : Program → World → CXT}
variable {X : Cx} {ca : CA} {W : WX} {ρ : Env} {ρx : EX} {i k : Nat} {r : Option V} {o : O} {e re : Expr} {es : List Expr} {n : Str} {p pos : Pos} {mπ : Res (List Stp)} {ma : Res D} {m : Res (List D × List Stp)} {α : Type} {out : α → O} {snap : O → List O} {n0 : Nat}
end
end Lk
namespace Lk
open PySem PySem.Spec PyProof.Rows L2
def O.cut (n : Nat) (os : List O) : Option (List O × O) := match os.drop n with
  | [w] => some (os.take n, w)
  | _ => none
section
variable {K : PySem.W.Frag} {ca : CA} {G H G' H' : Hp} {σ : L2.St} {ρ : Env} {f : Nat → AS} {js : List Nat} {rs : List (Option V)} {os ox : List O} {bs : List V} {i : Nat} {r : Option V} {o o' o1 w : O} {vi v1 : V} {F1 : AS} {fs' : Nat → AS} {g : AS}
theorem SAt.snoc (ho : ρ[i]? = some (some (reO r o))) (hi : i ∉ js) (s : SAt ρ js rs os) : SAt ρ (js ++ [i]) (rs ++ [r]) (os ++ [o]) := by
  induction s with
  | nil => exact .cons ho (by simp) .nil
  | cons h1 h2 h3 ih =>
    refine .cons h1 ?_ (ih fun z => hi (List.mem_cons_of_mem _ z))
    intro z
    rcases List.mem_append.mp z with z | z
    · exact h2 z
    · simp at z
      exact hi (by rw [z]; exact List.mem_cons_self)
theorem VAt.snoc (hv : σ[i]? = some (some vi)) (v : VAt σ js bs) : VAt σ (js ++ [i]) (bs ++ [vi]) := by
  induction v with
  | nil => exact .cons hv .nil
  | cons h1 h2 ih => exact .cons h1 ih
end
section
variable {X : Cx} {ca : CA} {W : WX} {ρ : Env} {ρx : EX} {i : Nat} {r : Option V} {o o1 : O} {α : Type} {out : α → O} {snap : List O → List O} {ks : List Bool} {js : List Nat} {rs : List (Option V)} {os : List O}
end
section
variable {Fl : Program → World → CXT}
variable {X : Cx} {ca : CA} {W : WX} {ρ : Env} {ρx : EX} {i j k : Nat} {r : Option V} {o : O} {e re : Expr} {es : List Expr} {n n1 : Str} {p p0 pos pos' : Pos} {mπ : Res (List Stp)} {ma : Res D} {m : Res (List D × List Stp)} {mt : Res (List D × D)} {α : Type} {out : α → O} {snap : List O → List O} {ks : List Bool} {js : List Nat} {rs : List (Option V)} {os : List O}
end
def FM3q {β : Type} (m : List D → List D → List D → List D → Res β) : List O → List D → Res β
  | [.ol none xs, .ol none ys, .ol none zs], ds => m xs ys zs ds
  | _, _ => .bug
@[simp] theorem a9v {β : Type} (m : List D → List D → List D → List D → Res β) (xs ys zs : List D) (ds : List D) : FM3q m [.ol none xs, .ol none ys, .ol none zs] ds = m xs ys zs ds := rfl
def unqqb {α : Type} (k : List D → List D → O → Res α) : List O → Res α
  | [.ol none xs, .ol none ys, o] => k xs ys o
  | _ => .bug
@[simp] theorem a8j {α : Type} (k : List D → List D → O → Res α) (o : O) (xs ys : List D) : unqqb k [.ol none xs, .ol none ys, o] = k xs ys o := rfl
def unbq {α : Type} (k : O → List D → Res α) : List O → Res α
  | [o, .ol none xs] => k o xs
  | _ => .bug
@[simp] theorem a9w {α : Type} (k : O → List D → Res α) (o : O) (xs : List D) : unbq k [o, .ol none xs] = k o xs := rfl
section
variable {X : Cx} {ca : CA} {W : WX} {ρ : Env} {ρx : EX} {α S' B T : Type} {emb' : S' → Env} {embB : B → Env} {outR : T → RtP} {out : α → O} {e : Expr} {pos pos' : Pos} {n : Str} {i j l m : Nat} {rest : List Stmt} {r q t : Option V}
end
end Lk
namespace Lk
open PySem PySem.Spec PyProof.Rows L2
section
variable {K : PySem.W.Frag} {ca : CA} {G H : Hp}
end
section
variable {X : Cx} {ca : CA} {W : WX} {ρ : Env} {i : Nat} {r : Option V} {o o1 : O} {π : List Stp} {e : Expr} {α : Type}
end
end Lk
namespace Lk
open PySem PySem.Spec PyProof.Rows L2
section
variable {X : Cx} {x1 x2 n : Str} {c1 c2 : Value} {i : Nat} {body su1 su2 : List Stmt} {b1 b2 : Stmt} {np1 np2 pos p1 p2 : Pos} {tb : WX → TS} {ts1 ts2 : Addr → Value → Option Addr → TS} {Wout : WX}
structure InHand (X : Cx) (pins : List (Addr × Obj)) (a : Addr) (B : Heap) (sI : Shared) (σ1 : L2.St) (H1 : Hp) (cls : Value) (d : Option Addr) (sj : Shared) (h3 : Heap) : Prop where
  inv : Inv X pins σ1 H1 sI
  low : ∀ b o, sI.heap.get? b = some o → b ∉ frs X.stack → B.get? b = some o
  up : sI.heap.UpToSlots h3
  fly : HandSPX.FlyingZ B (X.env :: X.outer) a (Zc cls d) h3
  none_ : H1 a = none
  os : sj.os = sI.os
  gens : AllBare sj.gens
theorem InHand.notFrame {pins : List (Addr × Obj)} {a : Addr} {B : Heap} {sI sj : Shared} {σ1 : L2.St} {H1 : Hp} {cls : Value} {d : Option Addr} {h3 : Heap} (q : InHand X pins a B sI σ1 H1 cls d sj h3) : a ∉ frs (X.env :: X.outer) := fun hm => by
  obtain ⟨_, vv, g1, _, g2⟩ := q.fly.there
  obtain ⟨_, o', g3, g4⟩ := (q.fly.2.2.1).mem hm
  rw [g1] at g3
  cases g3
  exact g4 _ g2
theorem a2k {pins : List (Addr × Obj)} {a : Addr} {B : Heap} {sI sj : Shared} {σ1 : L2.St} {H1 : Hp} {cls : Value} {d : Option Addr} {h3 : Heap} {D : Ends} (hs : X.stack = X.env :: X.outer) (hf : X.env.frame = some X.env.locals) (tk : Takes X Wout)
    (q : InHand X pins a B sI σ1 H1 cls d sj h3) (w : Wout cls d σ1 H1) : wpAny (model X.prog X.w) X.A (handleBy (.ref a) X.env []) (SP X pins D) X.xe { sj with heap := h3 } := by
  refine wpAny_handleBy_nil ?_
  obtain ⟨k1, k2, k3, oe, vv, T, oT, more, get_, z_, dat_, v1_, rr_⟩ := id q.fly
  unfold PySem.passOn
  refine wpAny_bind (wpAny_field get_ dat_ v1_ ?_)
  rw [if_neg (by simp : ¬ ((Value.ref T == Value.none) = true))]
  have last_ : wpAny (model X.prog X.w) X.A (setFlight (.ref a) X.env.frame)
      (fun _ s4 => wpAny (model X.prog X.w) X.A (throw (.ref a) : Sem Flow) (SP X pins D) X.xe s4) X.xe { sj with heap := h3 } := by
    rw [hf]
    refine HandSPX.setFlight_upZ q.fly fun h4 held4 up4 => wpAny_throw (tk _ _ ?_)
    refine ⟨a, B, sI, pins, σ1, H1, cls, d, rfl, q.inv, q.low, q.up.trans up4, .inr (.inr ?_), q.none_, q.os, q.gens, w⟩
    rw [hs]
    exact held4
  first
    | exact wpAny_bind (wpAny_pure (wpAny_bind last_))
    | exact wpAny_bind last_
end
def tryR2 {S B T : Type} (p q : Nat → Option Bool) (m : Res (Out S B T)) (h : Nat → Res (Out S B T)) (hs : Nat → List O → Res (Out S B T)) (g : Nat → Res (Out S B T)) (gs : Nat → List O → Res (Out S B T)) : Res (Out S B T) := match m with
  | .exc c => (match p c with
    | some true => h c
    | some false => (match q c with
      | some true => g c
      | some false => .exc c
      | none => .bug)
    | none => .bug)
  | .ok (.ra c os) => (match p c with
    | some true => hs c os
    | some false => (match q c with
      | some true => gs c os
      | some false => .exc c
      | none => .bug)
    | none => .bug)
  | m => m
section
variable {S B T : Type} {p q : Nat → Option Bool} {h g : Nat → Res (Out S B T)} {hs gs : Nat → List O → Res (Out S B T)} {c : Nat} {os : List O}
@[simp] theorem a9x (s : S) : tryR2 p q (.ok (.nx s)) h hs g gs = .ok (.nx s) := rfl
@[simp] theorem a9y (s : B) : tryR2 p q (.ok (.bk s)) h hs g gs = .ok (.bk s) := rfl
@[simp] theorem a9z (s : B) : tryR2 p q (.ok (.ct s)) h hs g gs = .ok (.ct s) := rfl
@[simp] theorem a90 (s : T) : tryR2 p q (.ok (.rt s)) h hs g gs = .ok (.rt s) := rfl
end
section
variable {X : Cx} {ca : CA} {S B T : Type} {W : WX} {ρ : Env} {ρx : EX} {emb : S → Env} {embB : B → Env} {out : T → RtP} {x1 x2 : Str} {c1 c2 : Value} {body su1 su2 : List Stmt} {b1 b2 : Stmt} {np1 np2 pos p1 p2 : Pos} {M : Res (Out S B T)} {Mh Mg : Nat → Res (Out S B T)} {Ms Mt : Nat → List O → Res (Out S B T)} {pp qq : Nat → Option Bool}
end
end Lk
namespace Lk
open PySem PySem.Spec PyProof.Rows L2
section
variable {X : Cx} {ca : CA} {W : WX} {ρ : Env} {pos : Pos}
inductive PJD (X : Cx) (ca : CA) (W : WX) (ρ : Env) : List Expr → List (Res D) → Prop
  | nil : PJD X ca W ρ [] []
  | cons {e : Expr} {m : Res D} {es : List Expr} {ms : List (Res D)} : PE X e (tD X.K ca W ρ m) → PJD X ca W ρ es ms → PJD X ca W ρ (e :: es) (m :: ms)
end
end Lk
namespace Lk
open PySem PySem.Spec PyProof PyProof.Rows L2
section
variable {X : Cx} {ca : CA} {W : WX} {ρ : Env} {o e : Expr} {apos cpos : Pos} {mo me : Res D}
end
end Lk
namespace Lk
open PySem PySem.Spec PyProof.Rows L2
section
variable {X : Cx} {ca : CA} {S B T : Type} {W : WX} {ρ : Env} {re re' : Env} {rm : List O → Env} {emb : S → Env} {embB : B → Env} {outR : T → RtP} {M : Res (Out S B T)}
end
end Lk
namespace Lk
open PySem PySem.Spec PyProof.Rows L2
section
variable {X : Cx} {ca : CA} {S : Type} {W : WX} {ρ : Env} {ρx : EX} {emb : S → Env} {pos : Pos}
end
end Lk
namespace Lk
open PySem PySem.Spec PyProof.Rows L2
section
variable {X : Cx} {ca : CA} {W : WX} {ρ : Env} {ρx : EX} {i k : Nat} {r : Option V} {o : O} {e re : Expr} {es : List Expr} {m : Str} {apos pos : Pos} {α : Type} {out : α → O} {snap : O → List O} {tb : Nat → Option (List O → List D → Res (XR α × List O))} {n0 : Nat} {MA : Res (EO (List O) O)}
end
end Lk
namespace Lk
open PySem PySem.Spec PyProof.Rows L2
section
variable {X : Cx} {ca : CA} {S : Type} {W : WX} {ρ : Env} {ρx : EX} {emb : S → Env}
end
end Lk
namespace Lk
open PySem PySem.Spec PyProof.Rows L2
abbrev D.exn (j : Nat) : D := .fn j [.any, .non]
def D.isX (tb : Nat → Option Bool) : D → Res D
  | .fn j [.any, .non] => Res.opt ((tb j).map D.bl)
  | _ => .bug
@[simp] theorem a91 (tb : Nat → Option Bool) (j : Nat) : D.isX tb (D.exn j) = Res.opt ((tb j).map D.bl) := rfl
theorem a4g {tb : Nat → Option Bool} {x : D} (h : D.isX tb x ≠ .bug) : ∃ j b, x = D.exn j ∧ tb j = some b ∧ D.isX tb x = .ok (.bl b) := by
  unfold D.isX at h
  split at h
  · rename_i j
    cases e : tb j with
    | none => exact (h (by rw [e]; rfl)).elim
    | some b => exact ⟨j, b, rfl, e, by show Res.opt ((tb j).map D.bl) = _; rw [e]; rfl⟩
  · exact (h rfl).elim
theorem R.exn_inv' {K : PySem.W.Frag} {ca : CA} {G : Hp} {v : V} {j : Nat} {ws : List D} (ew : ws = [.any, .non]) (h : R K ca G v (.fn j ws)) : ∃ (a : Addr) (φ : Heap → Prop), v = .ref a ∧ G a = some (.ext φ) ∧ ∀ h, φ h → ExAt (.ref (ca j)) a h := by
  cases h with
  | fn h0 => exact (h0 _ ew).elim
  | exn h1 h2 => exact ⟨_, _, rfl, h1, h2⟩
  | @fnl f c _ nd' cl' h1 h2 h3 =>
    cases cl' with
    | nil => simp [encC] at ew
    | cons p q => simp [encC] at ew
theorem R.exn_inv {K : PySem.W.Frag} {ca : CA} {G : Hp} {v : V} {j : Nat} (h : R K ca G v (D.exn j)) : ∃ (a : Addr) (φ : Heap → Prop), v = .ref a ∧ G a = some (.ext φ) ∧ ∀ h, φ h → ExAt (.ref (ca j)) a h := R.exn_inv' rfl h
section
variable {X : Cx} {ca : CA} {W : WX} {ρ : Env} {e ce : Expr} {ma : Res D} {pos : Pos} {c : V} {cv : Value} {tb : Nat → Option Bool}
def rIsX (K : PySem.W.Frag) : List V → Hp → VK → Prop := fun xs H Q => ∃ (a D : Addr) (φ : Heap → Prop) (c : V) (cv : Value) (b : Bool), xs = [.ref a, c] ∧ H a = some (.ext φ) ∧ (∀ h, φ h → ExAt (.ref D) a h) ∧ ExcC K D ∧ (∀ u, RelV c u → u = cv) ∧ PySem.W.kitOne K (.ref D) cv = some b ∧ Q (.bl b) H
theorem a3d : CallR X (.builtin "isinstance") (rIsX X.K) := by
  intro pins s σ H xs us Q I r h
  obtain ⟨a, D, φ, c, cv, b, rfl, hT, hφ, C, hcv, e, q⟩ := h
  cases r with
  | cons rx rr =>
    cases rr with
    | cons rt rr =>
      cases rr
      cases rx
      have ec := hcv _ rt
      subst ec
      obtain ⟨oe, hget, hz, vs, hv⟩ := hφ _ (show φ s.heap from (show ObjOk X.prog X.w H s.heap a (.ext φ) from I.hok a _ hT).1)
      have J : PySem.W.InstAt s.heap a oe D none := by
        obtain ⟨oc, od, oda, osl⟩ := oe
        obtain ⟨h1, h2⟩ := hz
        dsimp only at h1 h2 hv
        subst h1 h2 hv
        exact ⟨hget, rfl, rfl, trivial⟩
      exact PySem.W.kia_one (PySem.W.handS_kitx_exc C.hg C.hk C.hs C.hd C.ha C.hn C.ht C.hm) I.kIn J e (fun z => nomatch z) fun tk => ⟨.bl b, H, I.kept (t' := tk) fun _ _ z => z, rfl, q⟩
theorem e_isX {n1 : Str} {p1 : Pos} (ha : PE X e (tD X.K ca W ρ ma)) (hC : ∀ j b, tb j = some b → ExcC X.K (ca j) ∧ PySem.W.kitOne X.K (.ref (ca j)) cv = some b)
    (hg : Gl X n1) (hm : X.mg n1 = none) (hv : bootBuiltins n1 = some (.builtin "isinstance")) (hce : PE X ce (tC c)) (hcv : ∀ u, RelV c u → u = cv)
    (hn : n1 ≠ "__name__" := by decide) (hdb : (n1 == ("__debug__" : Str)) = false := by decide)
    (he : starEach [e, ce] X.env = (false, eval e X.env) :: starEach [ce] X.env := by rfl) (hpl : (backTo pos (starEach [ce] X.env)).any (·.1) = false := by rfl) (hs2 : starEach [ce] X.env = (false, eval ce X.env) :: starEach [] X.env := by rfl) :
    PE X (.Call (.Name n1 p1) [e, ce] [] pos) (tD X.K ca W ρ (ma >>= fun x => D.isX tb x)) :=
  PE.of (pe_callB a3d hg hm hv (pa_cons ha (pa_cons hce pa_nil hs2) he) hn hdb he hpl) fun σ H Q ⟨Hb, G, h⟩ => ⟨Hb, G, h.cut fun x G1 H1 _ g1 h1 v rv => by
    obtain ⟨j, b, rfl, e1, e2⟩ := a4g h1.nb
    obtain ⟨a, φ, rfl, k1, k2⟩ := rv.exn_inv
    obtain ⟨C, kk⟩ := hC j b e1
    exact ⟨a, ca j, φ, c, cv, b, rfl, h1.sub _ _ k1, k2, C, hcv, kk, h1.ok (.bl b) e2 _ _ (.refl h1.sub) _ (.bl b)⟩⟩
theorem a3e {cls : Value} {a : Addr} {h : Heap} (q : ∃ (oe : Obj) (vs : Array Value), h.get? a = some oe ∧ Zc cls none oe ∧ oe.data = .fields vs ∧ vs[1]? = some .none ∧ vs[2]? = some .none ∧ 4 < vs.size) : ExAt cls a h :=
  let ⟨oe, vs, e, z, d, _⟩ := q
  ⟨oe, e, z, vs, d⟩
theorem e_exn {j : Nat} {x : Str} {p : Pos} (E : ExcF X.K X.mg x (ca j)) (hg : Gl X x) (ha : PE X e (tD X.K ca W ρ ma)) (hs : starEach [e] X.env = (false, eval e X.env) :: starEach [] X.env := by rfl) (hdb : (x == ("__debug__" : Str)) = false := by decide) :
    PE X (.Call (.Name x p) [e] [] pos) (tD X.K ca W ρ (ma >>= fun _ => .ok (D.exn j))) :=
  PE.of (pe_exc1 PySem.F.excBase_ValueError E.x E.g E.kp hg ha hs hdb) fun σ H Q ⟨Hb, G, h⟩ => ⟨Hb, G, h.cut fun x G1 H1 _ g1 h1 v rv a hn =>
    h1.go (Gb.alloc h1.sub h1.sb hn) _ (.exn upd_same fun _ q => a3e q)⟩
end
section
variable {X : Cx} {pins : List (Addr × Obj)} {σ : L2.St} {H : Hp} {s : Shared}
theorem a2y {a : Addr} {oe : Obj} {vs : Array Value} {φ : Heap → Prop} (I : Inv X pins σ H s) (n0 : X.s_0.heap.get? a = none) (ha : s.heap.get? a = some oe) (hd : oe.data = .fields vs) (hn : H a = none)
    (ok : ObjOk X.prog X.w (upd H a (.ext φ)) s.heap a (.ext φ)) (nL : a ≠ X.env.locals) (np : ∀ p ∈ X.pn ++ pins, p.1 ≠ a) : Inv X pins σ (upd H a (.ext φ)) s := by
  have ne0 : ∀ b o, X.s_0.heap.get? b = some o → b ≠ a := fun b o e z => by
    rw [z, n0] at e
    cases e
  have neS : ∀ b u, H b = some u → b ≠ a := fun b u e z => by
    rw [z, hn] at e
    cases e
  have neC : ∀ x c, X.env.cells.lookup x = some c → c ≠ a := fun x c e z => by
    obtain ⟨v, o, ho, hv⟩ := I.cell x c e
    rw [z, ha] at ho
    cases ho
    rw [hd] at hv
    cases hv
  refine ⟨I.ok, I.os, I.bare, ⟨I.base.keep, I.base.slot, fun b o e n hq => ?_, I.base.there, fun b xs e => ?_, fun b o u e => ?_, fun b ps e => ?_⟩, I.loc, I.cell, ?_, fun x c e => ?_, fun p hp => ?_, HOk.laidN I.hok (fun _ _ z => z) hn ok, I.len⟩
  · rw [upd_ne (ne0 b o e)]
    exact I.base.free b o e n hq
  · have q := I.base.tups b xs e
    rw [upd_ne (neS b _ q)]
    exact q
  · have q := I.base.frzs b o u e
    rw [upd_ne (neS b _ q)]
    exact q
  · obtain ⟨m, q⟩ := I.base.tbls b ps e
    exact ⟨m, by rw [upd_ne (neS b _ q)]; exact q⟩
  · rw [upd_ne (Ne.symm nL)]
    exact I.free
  · rw [upd_ne (neC x c e)]
    exact I.freeC x c e
  · obtain ⟨e, n, r⟩ := I.pin p hp
    exact ⟨e, by rw [upd_ne (np p hp)]; exact n, r⟩
end
def wKp (K : PySem.W.Frag) (c : Value) (i im : Nat) (Wout : WX) (D : Ends) : WX := fun cls d σ H =>
  ∃ b, PySem.W.exmOne K cls c = some b ∧ (b = true → d = none ∧ ∀ a, H a = none → im < σ.length → D.nx (((σ.set i (some (.ref a))).set im (some (.ref a))).set i none) (upd H a (.ext (ExAt cls a)))) ∧ (b = false → Wout cls d σ H)
section
variable {X : Cx} {x1 n m : Str} {c1 : Value} {i im : Nat} {body : List Stmt} {np1 mp np2 ap pos p1 : Pos} {tb : WX → TS} {Wout : WX}
theorem a12 {rest : List ExceptHandler} {pins : List (Addr × Obj)} {a : Addr} {B : Heap} {sI sj : Shared} {σ1 : L2.St} {H1 : Hp} {cls : Value} {d : Option Addr} {h3 : Heap} {D : Ends} {Wr : WX}
    (hs : X.stack = X.env :: X.outer) (hex : X.ex = []) (hf : X.env.frame = some X.env.locals) (hN : X.N.Nodup) (hi : X.N[i]? = some n) (hln : X.env.kindOf n = some .local) (hj : X.N[im]? = some m) (hlm : X.env.kindOf m = some .local) (hmv : Vis X.env.scope n) (hd1 : (n == ("__debug__" : Str)) = false) (hd2 : (n == ("__classdict__" : Str)) = false)
    (hc : Names X x1 c1) (ok : X.Ok)
    (q : InHand X pins a B sI σ1 H1 cls d sj h3) (w : wKp X.K c1 i im Wr D cls d σ1 H1)
    (hr : Wr cls d σ1 H1 → wpAny (model X.prog X.w) X.A (handleBy (.ref a) X.env rest) (SP X pins D) X.xe { sj with heap := h3 }) :
    wpAny (model X.prog X.w) X.A (handleBy (.ref a) X.env (.ExceptHandler (some (.Name x1 np1)) (some n) [.Assign [.Name m mp] (.Name n np2) ap] p1 :: rest)) (SP X pins D) X.xe { sj with heap := h3 } := by
  obtain ⟨b, hx, yes_, no_⟩ := w
  obtain ⟨o3, v3, get3, z3, dat3⟩ := q.fly.there
  have J3 : Inv X pins σ1 H1 { sj with heap := h3 } :=
    q.inv.landed q.low q.fly.1 q.up q.os q.gens
  have nfr := q.notFrame
  have offL : a ≠ X.env.locals := by
    intro z
    refine nfr (List.mem_filterMap.mpr ⟨X.env, .head _, ?_⟩)
    rw [hf, z]
  have offF : a ∉ X.fs := by
    intro hm
    obtain ⟨e, he, z⟩ := List.mem_filterMap.mp hm
    exact nfr (List.mem_filterMap.mpr ⟨e, .tail _ he, z⟩)
  have S3 := J3.suite get3 dat3 q.none_ offL offF
  refine wpAny_handleBy_cons (codeAny_handlers_test ?_) fun z => by cases z
  have ty_ : PySem.W.Looks (model X.prog X.w) h3 (typeOf (.ref a)) cls := by
    intro A' Q' E' s' keeps z
    exact wpAny_typeOf_ref (keeps _ _ get3) (by rw [z3.1]; exact z)
  have lk := PySem.W.exm_one (M := model X.prog X.w) J3.kIn ty_ hx
  have name_ : ∀ {Q : Value → Shared → Prop} {E : Value → Shared → Prop}, Q c1 { sj with heap := h3 } →
      wpAny (model X.prog X.w) (X.A.mark (some (.ref a))) (eval (.Name x1 np1) X.env) Q E { sj with heap := h3 } := by
    intro Q E z
    obtain ⟨g1, g2, g3⟩ := hc
    rcases g3 with g3 | ⟨g3, g4, g5⟩
    · exact ld_glob (X := X.suite a ((a, o3) :: (X.pn ++ pins))) S3 g1 g3 z g2
    · exact ld_blt (X := X.suite a ((a, o3) :: (X.pn ++ pins))) S3 g1 g3 g4 z g5 g2
  -- a is new
  have newI : sI.heap.get? a = none := by
    cases e : sI.heap.get? a with
    | none => rfl
    | some o =>
      have hb : a ∉ frs X.stack := by rw [hs]; exact nfr
      have := q.low a o e hb
      rw [q.fly.2.1] at this
      cases this
  have new0 : X.s_0.heap.get? a = none := by
    cases e : X.s_0.heap.get? a with
    | none => rfl
    | some o =>
      obtain ⟨o', z⟩ := q.inv.base.there a o e (by rw [hex]; exact fun z => nomatch z)
      rw [newI] at z
      cases z
  refine name_ (lk.here ?_)
  cases b with
  | false => exact hr (no_ rfl)
  | true =>
    obtain ⟨rfl, nx_⟩ := yes_ rfl
    refine codeAny_handlers_suite_as (HandSPX.lands_againZ q.fly fun h4 fly4 up4 => ?_)
    have J4 : Inv X pins σ1 H1 { sj with heap := h4 } :=
      q.inv.landed q.low fly4.1 (q.up.trans up4) q.os q.gens
    obtain ⟨o4, v4, get4, z4, dat4⟩ := fly4.there
    have S4 := J4.suite get4 dat4 q.none_ offL offF
    refine store_ok (X := X.suite a ((a, o4) :: (X.pn ++ pins))) (v := .ref a) S4 hN hi (.inl hln) rfl (fun s5 S5 => ?_) (.inr hln)
    have hiσ : i < σ1.length := by
      have z := S5.len
      rw [List.length_set] at z
      rw [z]
      exact (List.getElem?_eq_some_iff.mp hi).1
    have hjσ : im < σ1.length := by
      have z := S5.len
      rw [List.length_set] at z
      rw [z]
      exact (List.getElem?_eq_some_iff.mp hj).1
    have st : PSs (X.suite a ((a, o4) :: (X.pn ++ pins))) [.Assign [.Name m mp] (.Name n np2) ap] (tAsg (tVar i) (gName im)) :=
      pss_one (ps_set (X := X.suite a ((a, o4) :: (X.pn ++ pins))) hN hj (.inl hlm) (pe_var (X := X.suite a ((a, o4) :: (X.pn ++ pins))) hi hmv hd1 hd2) (by rfl) (.inr hlm))
    have run_ := st.run [] s5 _ H1 { nx := fun σ' H' => σ' = (σ1.set i (some (.ref a))).set im (some (.ref a)) ∧ H' = H1, rt := fun _ _ => False } S5 ⟨.ref a, List.getElem?_set_self hiσ, rfl, rfl⟩
    refine wpAny_mono run_ (fun fl s6 hs6 => ?_) fun _ _ z => z.elim
    cases fl with
    | ret u =>
      obtain ⟨v6, σ6, H6, S6, r6, z6⟩ := hs6
      exact z6.elim
    | next =>
      obtain ⟨σ6, H6, S6, e6, e7⟩ := hs6
      subst e6 e7
      have get6 := (S6.pin (a, o4) (List.mem_append.mpr (.inl List.mem_cons_self))).1
      have J6 := S6.unsuite ok
      have J7 := a2y (φ := ExAt cls a) J6 new0 get6 dat4 q.none_ ⟨⟨o4, get6, z4, _, dat4⟩, ⟨o4, get6⟩, fun _ _ ⟨o, z, r⟩ k => ⟨o, k o z, r⟩⟩ offL fun p hp z => by
        have := (q.inv.pin p hp).1
        rw [z, newI] at this
        cases this
      exact gone_ok J7 hN hi hln fun s7 J8 => ⟨_, _, J8, nx_ a q.none_ hjσ⟩
    | brk =>
      obtain ⟨σ6, H6, S6, z6⟩ := hs6
      exact z6.elim
    | cont =>
      obtain ⟨σ6, H6, S6, z6⟩ := hs6
      exact z6.elim
theorem a13 (hs : X.stack = X.env :: X.outer) (hex : X.ex = []) (hf : X.env.frame = some X.env.locals) (hN : X.N.Nodup) (hi : X.N[i]? = some n) (hln : X.env.kindOf n = some .local) (hj : X.N[im]? = some m) (hlm : X.env.kindOf m = some .local) (hmv : Vis X.env.scope n) (hd1 : (n == ("__debug__" : Str)) = false) (hd2 : (n == ("__classdict__" : Str)) = false)
    (hc : Names X x1 c1) (tk : Takes X Wout)
    (hb : ∀ (W : WX) (pn : List (Addr × Obj)) (xe : Value → Shared → Prop), Takes (X.tr pn xe) W → PassesOwn (model X.prog X.w) X.A X.env xe → PSs (X.tr pn xe) body (tb W)) :
    PS X (.Try body [.ExceptHandler (some (.Name x1 np1)) (some n) [.Assign [.Name m mp] (.Name n np2) ap] p1] [] [] pos) (fun D σ H => tb (wKp X.K c1 i im Wout D) D σ H) := by
  refine ⟨fun pins s σ H D I h => ?_⟩
  have ok := I.ok
  have frames_ : X.A.frames = some (X.env :: X.outer) := by rw [ok.frames, hs]
  let hds : List ExceptHandler := [.ExceptHandler (some (.Name x1 np1)) (some n) [.Assign [.Name m mp] (.Name n np2) ap] p1]
  refine wpAny_Try_except ?_
  let xe' : Value → Shared → Prop := fun e sa => wpAny (model X.prog X.w) X.A (noteFrame e X.env)
    (fun _ sb => wpAny (model X.prog X.w) X.A (setFlight e none)
      (fun _ sc => wpAny (model X.prog X.w) X.A (handleBy e X.env hds) (SP X pins D) X.xe sc) X.xe sb) X.xe sa
  have takes_ : Takes (X.tr (X.pn ++ pins) xe') (wKp X.K c1 i im Wout D) := by
    intro u sj xx
    obtain ⟨a, B, sI, pins', σ1, H1, cls, d, rfl, J', low, up, sky, na, os, ag, w⟩ := xx
    have sky' : Sky B (X.env :: X.outer) a (Zc cls d) X.env.locals sj.heap := by rw [← hs]; exact sky
    show wpAny (model X.prog X.w) X.A (noteFrame (.ref a) X.env) _ _ _
    refine Sky.land Zc.steady frames_ hf sky' fun h3 fly3 up3 => ?_
    have q : InHand X pins a B sI σ1 H1 cls d sj h3 := ⟨J'.ofTry ok, low, up.trans up3, fly3, na, os, ag⟩
    exact a12 hs hex hf hN hi hln hj hlm hmv hd1 hd2 hc ok q w fun w2 => a2k hs hf tk q w2
  refine wpAny_mono ((hb _ (X.pn ++ pins) xe' takes_ PassesOwn.looking).run [] s σ H D (I.toTry _) h) (fun fl s1 hs1 => ?_) fun e s1 he => he
  cases fl with
  | ret u =>
    obtain ⟨v1, σ1, H1, J1, r1, z1⟩ := hs1
    exact ⟨v1, σ1, H1, J1.ofTry ok, r1, z1⟩
  | next =>
    obtain ⟨σ1, H1, J1, z1⟩ := hs1
    exact wpAny_execs_nil ⟨σ1, H1, J1.ofTry ok, z1⟩
  | brk =>
    obtain ⟨σ1, H1, J1, z1⟩ := hs1
    exact ⟨σ1, H1, J1.ofTry ok, z1⟩
  | cont =>
    obtain ⟨σ1, H1, J1, z1⟩ := hs1
    exact ⟨σ1, H1, J1.ofTry ok, z1⟩
end
section
variable {X : Cx} {ca : CA} {S B T : Type} {W : WX} {ρ : Env} {ρx : EX} {emb : S → Env} {embB : B → Env} {out : T → RtP} {x1 n m : Str} {c1 : Value} {i im : Nat} {body : List Stmt} {np1 mp np2 ap pos p1 : Pos} {M : Res (Out S B T)} {pp : Nat → Option Bool} {sf : Nat → S}
theorem Grow.ext {G H : Hp} {a : Addr} {φ : Heap → Prop} (s : Sub G H) (hn : H a = none) : Grow G H (upd G a (.ext φ)) (upd H a (.ext φ)) :=
  let g := Gb.alloc (Hb := H) s (Fr'.refl H) hn a1l
  ⟨g.g, g.sub, g.h, g.new⟩
theorem a2z (hs : X.stack = X.env :: X.outer) (hex : X.ex = []) (hf : X.env.frame = some X.env.locals) (hN : X.N.Nodup) (hi : X.N[i]? = some n) (hln : X.env.kindOf n = some .local) (hj : X.N[im]? = some m) (hlm : X.env.kindOf m = some .local) (hmv : Vis X.env.scope n)
    (hc : Names X x1 c1) (tk : Takes X W)
    (hp : ∀ j b, pp j = some b → PySem.W.exmOne X.K (.ref (ca j)) c1 = some b) {ρb : EX} (le : Env.le ρx.e ρb.e) (le2 : ∀ os, Env.le ρx.e (ρb.emb os)) (k1 : ∀ s, a0v (emb s) [i] = true) (him : i ≠ im)
    (hl : ∀ j, Env.le (emb (sf j)) (ρb.e.set im (some (.d (D.exn j)))))
    (hb : ∀ (W' : WX) (pn : List (Addr × Obj)) (xe : Value → Shared → Prop), Takes (X.tr pn xe) W' → PassesOwn (model X.prog X.w) X.A X.env xe → PSs (X.tr pn xe) body (tS X.K ca W' ρb emb embB out ρ M))
    (hd1 : (n == ("__debug__" : Str)) = false := by decide) (hd2 : (n == ("__classdict__" : Str)) = false := by decide) :
    PS X (.Try body [.ExceptHandler (some (.Name x1 np1)) (some n) [.Assign [.Name m mp] (.Name n np2) ap] p1] [] [] pos) (tS X.K ca W ρx emb embB out ρ (tryR pp M (fun j => .ok (.nx (sf j))) (fun _ _ => .bug))) := by
  refine PS.of (a13 (i := i) (im := im) (tb := fun W' => tS X.K ca W' ρb emb embB out ρ M) hs hex hf hN hi hln hj hlm hmv hd1 hd2 hc tk hb) fun D σ H ⟨G, f, E, h⟩ => ⟨G, f, E, ?_⟩
  refine a4e hp le le2 h fun j b σ' H' hx hyes hno => ⟨b, hx, fun e => ⟨rfl, fun a ha hjσ => ?_⟩, hno⟩
  rcases hyes e with ⟨G', f', v', E', h'⟩ | ⟨os, G', f', v', E', h'⟩
  · have g := Grow.ext (φ := ExAt (.ref (ca j)) a) E'.sub.toSub ha
    have E1 := (E'.grow g).put hjσ (R.exn (ca := ca) (K := X.K) (j := j) (upd_same (o := .ext (ExAt (.ref (ca j)) a))) fun _ q => q)
    have es : ((σ'.set i (some (.ref a))).set im (some (.ref a))).set i none = (σ'.set im (some (.ref a))).set i none := by
      rw [List.set_comm _ _ him, List.set_set]
    rw [es]
    exact h'.nx (sf j) rfl _ _ _ _ ((Evo.of_grow g).less fun x z => (a0k z).elim False.elim id) ((E1.weak (hl j)).unset (k1 _))
  · exact (h'.nb rfl).elim
end
end Lk
namespace Lk
open PySem PySem.Spec PyProof.Rows L2
section
variable {S B T : Type}
theorem a1s {step : S → D → Res (Out S S T)} : ∀ (xs : List D) (P : Nat → S → Prop) {s : S}, P 0 s →
    (∀ k (hk : k < xs.length) s, P k s → ∃ s', step s xs[k] = .ok (.nx s') ∧ P (k + 1) s') → ∃ s', (loopR step xs s : Res (Out S B T)) = .ok (.nx s') ∧ P xs.length s'
  | [], P, s, h0, _ => ⟨s, rfl, h0⟩
  | x :: xs, P, s, h0, h => by
    obtain ⟨s1, e1, h1⟩ := h 0 (Nat.zero_lt_succ _) s h0
    obtain ⟨s2, e2, h2⟩ := a1s xs (fun k => P (k + 1)) h1 fun k hk s q => h (k + 1) (Nat.succ_lt_succ hk) s q
    refine ⟨s2, ?_, h2⟩
    have e1' : step s x = .ok (.nx s1) := e1
    simp only [loopR, e1']
    exact e2
@[simp] theorem a4p {step : S → D → Res (Out S S T)} {x : D} {xs : List D} {s : S} : (loopR step (x :: xs) s : Res (Out S B T)) = (step s x >>= fun
    | .nx s' => loopR step xs s'
    | .ct s' => loopR step xs s'
    | .bk s' => .ok (.nx s')
    | .rt r => .ok (.rt r)
    | .ra c os => .ok (.ra c os)) := rfl
end
section
variable {S B T γ : Type}
theorem a1t {α : Type} {step : S → D → Res (Out S S T)} {c : α → D} {xs : List α} {s : S} {k : Out S B T → Res γ} {r : Res γ} (P : Nat → S → Prop) (h0 : P 0 s)
    (hs : ∀ j (hj : j < xs.length) s, P j s → ∃ s', step s (c xs[j]) = .ok (.nx s') ∧ P (j + 1) s') (hk : ∀ s, P xs.length s → k (.nx s) = r) : (loopR step (xs.map c) s >>= k) = r := by
  obtain ⟨s', e, hs'⟩ := a1s (B := B) (T := T) (step := step) (xs.map c) P h0 (by
    intro j hj s hp
    rw [List.getElem_map]
    exact hs j (by simpa using hj) s hp)
  rw [e, a0o]
  exact hk s' (by simpa using hs')
theorem a04 {step : S → D → Res (Out S S T)} {n : Nat} {s : S} {k : Out S B T → Res γ} {r : Res γ} (P : Nat → S → Prop) (h0 : P 0 s)
    (hs : ∀ j, j < n → ∀ s, P j s → ∃ s', step s (.int (j : Int)) = .ok (.nx s') ∧ P (j + 1) s') (hk : ∀ s, P n s → k (.nx s) = r) : (loopR step ((List.range n).map fun k : Nat => D.int (k : Int)) s >>= k) = r := by
  refine a1t (c := fun k : Nat => D.int (k : Int)) P h0 (fun j hj s hp => ?_) (fun s hp => hk s (by simpa using hp))
  rw [List.getElem_range]
  exact hs j (by simpa using hj) s hp
theorem a2a {S' : Type} {m : Res γ} {f : γ → Res (Out S' B D)} : fin (m >>= f) = (m >>= fun a => fin (f a)) := by cases m <;> rfl
end
theorem a2l {n : Nat} : a0u 0 n = (List.range n).map fun k : Nat => D.int (k : Int) := by simp [a0u]
theorem a2m {n : Nat} (h : n ≤ 100000) : D.range1 [.int (n : Int)] = .ok ((List.range n).map fun k : Nat => D.int (k : Int)) := by
  have l : -(4611686018427387904 : Int) ≤ (n : Int) := by omega
  have r : (n : Int) < 4611686018427387904 := by omega
  have e : inB (n : Int) = true := decide_eq_true ⟨l, r⟩
  rw [a2q e, Int.toNat_natCast, a2l]
theorem a4h {α : Type} {xs : List α} {k : Nat} (h : k < xs.length) : L2.atI xs (k : Int) = some xs[k] := by
  unfold L2.atI L2.ixN
  have : ¬ (k : Int) < 0 := by omega
  simp [h]
theorem a3f {xs : List D} {k : Nat} (h : k < xs.length) : D.item (.lst xs) (.int (k : Int)) = .ok xs[k] := by simp [D.item, a4h h]
@[simp] theorem a92 {n : Nat} {i : Int} : D.fit n (.int i) = true := by cases n <;> rfl
@[simp] theorem b1b {n : Nat} {i : Bool} : D.fit n (.bl i) = true := by cases n <;> rfl
@[simp] theorem a93 {n : Nat} : D.fit n .non = true := by cases n <;> rfl
@[simp] theorem a5l (i : Int) : D.isT "int" (.int i) = .ok (.bl true) := rfl
@[simp] theorem a4q (i : Int) : D.isT "bool" (.int i) = .ok (.bl false) := rfl
@[simp] theorem a8k (i : Bool) : D.isT "int" (.bl i) = .ok (.bl true) := rfl
@[simp] theorem a5m (i : Bool) : D.isT "bool" (.bl i) = .ok (.bl true) := rfl
@[simp] theorem a2b (b : Bool) : D.truth (.bl b) = .ok b := rfl
@[simp] theorem a5n (b : Int) : D.truth (.int b) = .ok (b != 0) := rfl
@[simp] theorem a5o : D.truth .non = .ok false := rfl
@[simp] theorem a94 : Res.sized [] = .ok [] := if_pos (by simp)
@[simp] theorem a4i {a : D} : Res.sized [a] = .ok [a] := if_pos (by simp)
@[simp] theorem a4j {a b : D} : Res.sized [a, b] = .ok [a, b] := if_pos (by simp)
@[simp] theorem a95 {a b c : D} : Res.sized [a, b, c] = .ok [a, b, c] := if_pos (by simp)
@[simp] theorem a96 {a b c d : D} : Res.sized [a, b, c, d] = .ok [a, b, c, d] := if_pos (by simp)
@[simp] theorem a97 {a b c d e : D} : Res.sized [a, b, c, d, e] = .ok [a, b, c, d, e] := if_pos (by simp)
@[simp] theorem a98 {a b c d e f : D} : Res.sized [a, b, c, d, e, f] = .ok [a, b, c, d, e, f] := if_pos (by simp)
@[simp] theorem a4k {a b c d e f g : D} : Res.sized [a, b, c, d, e, f, g] = .ok [a, b, c, d, e, f, g] := if_pos (by simp)
@[simp] theorem a99 {a b c d e f g h : D} : Res.sized [a, b, c, d, e, f, g, h] = .ok [a, b, c, d, e, f, g, h] := if_pos (by simp)
theorem sized_ok {xs : List D} (h : xs.length ≤ 100000) : Res.sized xs = .ok xs := if_pos h
end Lk
namespace Lk
open PySem PySem.Spec PyProof.Rows L2
section
variable {S B T : Type}
end
section
variable {S B T γ : Type}
end
@[simp] theorem a5p (xs : List D) : D.isT "tuple" (.tup xs) = .ok (.bl true) := rfl
@[simp] theorem a4r (xs : List D) : D.isT "list" (.lst xs) = .ok (.bl true) := rfl
end Lk
namespace Lk
open PySem PySem.Spec PyProof.Rows L2
theorem a3g {a b : Char} (h : a.toNat = b.toNat) : a = b := by
  apply Char.ext
  exact UInt32.toNat_inj.mp h
theorem a1u : ∀ {a b : List Char}, a.map Char.toNat = b.map Char.toNat → a = b
  | [], [], _ => rfl
  | [], _ :: _, h => by simp at h
  | _ :: _, [], h => by simp at h
  | a :: as, b :: bs, h => by
    simp only [List.map_cons, List.cons.injEq] at h
    rw [a3g h.1, a1u h.2]
theorem a0w {a b : String} (h : Str.ofString a = Str.ofString b) : a = b := by
  rw [Str.ofString_eq_toList, Str.ofString_eq_toList] at h
  have h3 : a.toList.map Char.toNat = b.toList.map Char.toNat := by
    have := congrArg Str.cps h
    simpa using this
  exact String.toList_inj.mp (a1u h3)
@[simp] theorem a3s (a b : String) : (Str.ofString a == Str.ofString b) = (a == b) := by
  by_cases h : a = b
  · rw [h]; simp
  · have n : ¬ Str.ofString a = Str.ofString b := fun e => h (a0w e)
    rw [beq_eq_false_iff_ne.mpr n, beq_eq_false_iff_ne.mpr h]
@[simp] theorem a3t (a b : String) : (Str.ofString a = Str.ofString b) = (a = b) := by
  rw [eq_iff_iff]
  exact ⟨a0w, fun e => by rw [e]⟩
@[simp] theorem a5q {α : Type} (snap : List O → List O) (a : α) (os : List O) : (Res.ok (XR.val a, os) >>= toEO snap) = .ok (.va a os) := rfl
@[simp] theorem a4s {α β γ : Type} (m : Res α) (f : α → Res β) (g : β → Res γ) : ((m >>= f) >>= g) = (m >>= fun x => f x >>= g) := a2v m f g
@[simp] theorem a5r (a : D) : D.item (.tup [a]) (.int 0) = .ok a := rfl
@[simp] theorem a5s (a : D) : D.item (.lst [a]) (.int 0) = .ok a := rfl
@[simp] theorem a5t (a b : D) : D.item (.tup [a, b]) (.int 0) = .ok a := rfl
@[simp] theorem a5u (a b : D) : D.item (.lst [a, b]) (.int 0) = .ok a := rfl
@[simp] theorem a5v (a b : D) : D.item (.tup [a, b]) (.int 1) = .ok b := rfl
@[simp] theorem a5w (a b : D) : D.item (.lst [a, b]) (.int 1) = .ok b := rfl
@[simp] theorem a5x (a b c : D) : D.item (.tup [a, b, c]) (.int 0) = .ok a := rfl
@[simp] theorem a5y (a b c : D) : D.item (.lst [a, b, c]) (.int 0) = .ok a := rfl
@[simp] theorem a5z (a b c : D) : D.item (.tup [a, b, c]) (.int 1) = .ok b := rfl
@[simp] theorem a50 (a b c : D) : D.item (.lst [a, b, c]) (.int 1) = .ok b := rfl
@[simp] theorem a51 (a b c : D) : D.item (.tup [a, b, c]) (.int 2) = .ok c := rfl
@[simp] theorem a52 (a b c : D) : D.item (.lst [a, b, c]) (.int 2) = .ok c := rfl
@[simp] theorem a53 (a b c d : D) : D.item (.tup [a, b, c, d]) (.int 0) = .ok a := rfl
@[simp] theorem a54 (a b c d : D) : D.item (.lst [a, b, c, d]) (.int 0) = .ok a := rfl
@[simp] theorem a55 (a b c d : D) : D.item (.tup [a, b, c, d]) (.int 1) = .ok b := rfl
@[simp] theorem a56 (a b c d : D) : D.item (.lst [a, b, c, d]) (.int 1) = .ok b := rfl
@[simp] theorem a57 (a b c d : D) : D.item (.tup [a, b, c, d]) (.int 2) = .ok c := rfl
@[simp] theorem a58 (a b c d : D) : D.item (.lst [a, b, c, d]) (.int 2) = .ok c := rfl
@[simp] theorem a59 (a b c d : D) : D.item (.tup [a, b, c, d]) (.int 3) = .ok d := rfl
@[simp] theorem a6a (a b c d : D) : D.item (.lst [a, b, c, d]) (.int 3) = .ok d := rfl
@[simp] theorem a6b (a b c d e : D) : D.item (.tup [a, b, c, d, e]) (.int 0) = .ok a := rfl
@[simp] theorem a6c (a b c d e : D) : D.item (.lst [a, b, c, d, e]) (.int 0) = .ok a := rfl
@[simp] theorem a6d (a b c d e : D) : D.item (.tup [a, b, c, d, e]) (.int 1) = .ok b := rfl
@[simp] theorem a6e (a b c d e : D) : D.item (.lst [a, b, c, d, e]) (.int 1) = .ok b := rfl
@[simp] theorem a6f (a b c d e : D) : D.item (.tup [a, b, c, d, e]) (.int 2) = .ok c := rfl
@[simp] theorem a6g (a b c d e : D) : D.item (.lst [a, b, c, d, e]) (.int 2) = .ok c := rfl
@[simp] theorem a6h (a b c d e : D) : D.item (.tup [a, b, c, d, e]) (.int 3) = .ok d := rfl
@[simp] theorem a6i (a b c d e : D) : D.item (.lst [a, b, c, d, e]) (.int 3) = .ok d := rfl
@[simp] theorem a6j (a b c d e : D) : D.item (.tup [a, b, c, d, e]) (.int 4) = .ok e := rfl
@[simp] theorem a6k (a b c d e : D) : D.item (.lst [a, b, c, d, e]) (.int 4) = .ok e := rfl
@[simp] theorem a6l (a b c d e f : D) : D.item (.tup [a, b, c, d, e, f]) (.int 0) = .ok a := rfl
@[simp] theorem a6m (a b c d e f : D) : D.item (.lst [a, b, c, d, e, f]) (.int 0) = .ok a := rfl
@[simp] theorem a6n (a b c d e f : D) : D.item (.tup [a, b, c, d, e, f]) (.int 1) = .ok b := rfl
@[simp] theorem a6o (a b c d e f : D) : D.item (.lst [a, b, c, d, e, f]) (.int 1) = .ok b := rfl
@[simp] theorem a6p (a b c d e f : D) : D.item (.tup [a, b, c, d, e, f]) (.int 2) = .ok c := rfl
@[simp] theorem a6q (a b c d e f : D) : D.item (.lst [a, b, c, d, e, f]) (.int 2) = .ok c := rfl
@[simp] theorem a6r (a b c d e f : D) : D.item (.tup [a, b, c, d, e, f]) (.int 3) = .ok d := rfl
@[simp] theorem a6s (a b c d e f : D) : D.item (.lst [a, b, c, d, e, f]) (.int 3) = .ok d := rfl
@[simp] theorem a6t (a b c d e f : D) : D.item (.tup [a, b, c, d, e, f]) (.int 4) = .ok e := rfl
@[simp] theorem a6u (a b c d e f : D) : D.item (.lst [a, b, c, d, e, f]) (.int 4) = .ok e := rfl
@[simp] theorem a6v (a b c d e f : D) : D.item (.tup [a, b, c, d, e, f]) (.int 5) = .ok f := rfl
@[simp] theorem a6w (a b c d e f : D) : D.item (.lst [a, b, c, d, e, f]) (.int 5) = .ok f := rfl
@[simp] theorem a6x (a b c d e f g : D) : D.item (.tup [a, b, c, d, e, f, g]) (.int 0) = .ok a := rfl
@[simp] theorem a6y (a b c d e f g : D) : D.item (.lst [a, b, c, d, e, f, g]) (.int 0) = .ok a := rfl
@[simp] theorem a6z (a b c d e f g : D) : D.item (.tup [a, b, c, d, e, f, g]) (.int 1) = .ok b := rfl
@[simp] theorem a60 (a b c d e f g : D) : D.item (.lst [a, b, c, d, e, f, g]) (.int 1) = .ok b := rfl
@[simp] theorem a61 (a b c d e f g : D) : D.item (.tup [a, b, c, d, e, f, g]) (.int 2) = .ok c := rfl
@[simp] theorem a62 (a b c d e f g : D) : D.item (.lst [a, b, c, d, e, f, g]) (.int 2) = .ok c := rfl
@[simp] theorem a63 (a b c d e f g : D) : D.item (.tup [a, b, c, d, e, f, g]) (.int 3) = .ok d := rfl
@[simp] theorem a64 (a b c d e f g : D) : D.item (.lst [a, b, c, d, e, f, g]) (.int 3) = .ok d := rfl
@[simp] theorem a65 (a b c d e f g : D) : D.item (.tup [a, b, c, d, e, f, g]) (.int 4) = .ok e := rfl
@[simp] theorem a66 (a b c d e f g : D) : D.item (.lst [a, b, c, d, e, f, g]) (.int 4) = .ok e := rfl
@[simp] theorem a67 (a b c d e f g : D) : D.item (.tup [a, b, c, d, e, f, g]) (.int 5) = .ok f := rfl
@[simp] theorem a68 (a b c d e f g : D) : D.item (.lst [a, b, c, d, e, f, g]) (.int 5) = .ok f := rfl
@[simp] theorem a69 (a b c d e f g : D) : D.item (.tup [a, b, c, d, e, f, g]) (.int 6) = .ok g := rfl
@[simp] theorem a7a (a b c d e f g : D) : D.item (.lst [a, b, c, d, e, f, g]) (.int 6) = .ok g := rfl
@[simp] theorem a7b (a b c d e f g h : D) : D.item (.tup [a, b, c, d, e, f, g, h]) (.int 0) = .ok a := rfl
@[simp] theorem a7c (a b c d e f g h : D) : D.item (.lst [a, b, c, d, e, f, g, h]) (.int 0) = .ok a := rfl
@[simp] theorem a7d (a b c d e f g h : D) : D.item (.tup [a, b, c, d, e, f, g, h]) (.int 1) = .ok b := rfl
@[simp] theorem a7e (a b c d e f g h : D) : D.item (.lst [a, b, c, d, e, f, g, h]) (.int 1) = .ok b := rfl
@[simp] theorem a7f (a b c d e f g h : D) : D.item (.tup [a, b, c, d, e, f, g, h]) (.int 2) = .ok c := rfl
@[simp] theorem a7g (a b c d e f g h : D) : D.item (.lst [a, b, c, d, e, f, g, h]) (.int 2) = .ok c := rfl
@[simp] theorem a7h (a b c d e f g h : D) : D.item (.tup [a, b, c, d, e, f, g, h]) (.int 3) = .ok d := rfl
@[simp] theorem a7i (a b c d e f g h : D) : D.item (.lst [a, b, c, d, e, f, g, h]) (.int 3) = .ok d := rfl
@[simp] theorem a7j (a b c d e f g h : D) : D.item (.tup [a, b, c, d, e, f, g, h]) (.int 4) = .ok e := rfl
@[simp] theorem a7k (a b c d e f g h : D) : D.item (.lst [a, b, c, d, e, f, g, h]) (.int 4) = .ok e := rfl
@[simp] theorem a7l (a b c d e f g h : D) : D.item (.tup [a, b, c, d, e, f, g, h]) (.int 5) = .ok f := rfl
@[simp] theorem a7m (a b c d e f g h : D) : D.item (.lst [a, b, c, d, e, f, g, h]) (.int 5) = .ok f := rfl
@[simp] theorem a7n (a b c d e f g h : D) : D.item (.tup [a, b, c, d, e, f, g, h]) (.int 6) = .ok g := rfl
@[simp] theorem a7o (a b c d e f g h : D) : D.item (.lst [a, b, c, d, e, f, g, h]) (.int 6) = .ok g := rfl
@[simp] theorem a7p (a b c d e f g h : D) : D.item (.tup [a, b, c, d, e, f, g, h]) (.int 7) = .ok h := rfl
@[simp] theorem a7q (a b c d e f g h : D) : D.item (.lst [a, b, c, d, e, f, g, h]) (.int 7) = .ok h := rfl
@[simp] theorem a8l (a b : Int) : D.add (.int a) (.int b) = .ok (.int (a + b)) := rfl
@[simp] theorem a8m (a b : Int) : D.sub (.int a) (.int b) = .ok (.int (a - b)) := rfl
@[simp] theorem b0a (a b : Int) : D.lt (.int a) (.int b) = .ok (.bl (decide (a < b))) := rfl
@[simp] theorem b0b (a b : Int) : D.le (.int a) (.int b) = .ok (.bl (decide (a ≤ b))) := rfl
@[simp] theorem b0c (a b : Int) : D.gt (.int a) (.int b) = .ok (.bl (decide (b < a))) := rfl
@[simp] theorem b0d (a b : Int) : D.ge (.int a) (.int b) = .ok (.bl (decide (b ≤ a))) := rfl
@[simp] theorem a8n (a : Int) : D.neg (.int a) = .ok (.int (-a)) := rfl
theorem a20 {xs ys : List D} (h : xs.length + ys.length ≤ 100000) : D.add (.lst xs) (.lst ys) = .ok (.lst (xs ++ ys)) := by
  simp -implicitDefEqProofs only [D.add, D.cat]
  first | exact if_pos h | (rw [if_pos h]; rfl)
@[simp] theorem b0e : D.isN .non .non = .ok (.bl true) := rfl
@[simp] theorem b0f (i : Int) : D.isN (.int i) .non = .ok (.bl false) := rfl
@[simp] theorem b0g (i : List D) : D.isN (.lst i) .non = .ok (.bl false) := rfl
@[simp] theorem b0h (i : List D) : D.isN (.tup i) .non = .ok (.bl false) := rfl
@[simp] theorem b0i (c : Nat) (i : List (Str × D)) : D.isN (.ins c i) .non = .ok (.bl false) := rfl
@[simp] theorem a8o : D.notN .non .non = .ok (.bl false) := rfl
@[simp] theorem a8p (i : Int) : D.notN (.int i) .non = .ok (.bl true) := rfl
@[simp] theorem a8q (i : List D) : D.notN (.lst i) .non = .ok (.bl true) := rfl
@[simp] theorem a8r (i : List D) : D.notN (.tup i) .non = .ok (.bl true) := rfl
@[simp] theorem a7r (s : Str) : D.isT "str" (.str s) = .ok (.bl true) := rfl
end Lk
namespace Lk
open PySem PySem.Spec PyProof.Rows L2
theorem e_vv {X : Cx} {ca : CA} {W : WX} {ρ : Env} {n : Str} {p : Pos} {x : D} {N : List Str} (v : (N.all (locB X.env.scope)) = true) (d : (N.all dbgB) = true) (i : Nat) (f : N[i]? = some n) (e : X.N[i]? = some n) (h : ρ[i]? = some (some (.d x))) : PE X (.Name n p) (tD X.K ca W ρ (.ok x)) := e_var e (vi v i f) h (dbg1 d i f) (dbg2 d i f)
end Lk
namespace Lw
open PySem PySem.Spec PyProof.Rows L2 Lk
def top (i : Nat) : Stmt := PySem.Challenge.pw_lockhouse_k10_refusals_apart.main.body.getD i (.Pass ⟨0, 0, 0, 0⟩)
abbrev s0Z : Stmt := top 17
abbrev s1Z : Stmt := top 18
abbrev s2Z : Stmt := top 20
abbrev s3Z : Stmt := top 21
abbrev s4Z : Stmt := top 22
abbrev s5Z : Stmt := top 23
def a0x : He.DefD := ⟨("poured_all", none), "poured_all", "poured_all", defArgs s0Z, defBody s0Z, defScope s0Z, [], []⟩
def a2c : He.DefD := ⟨("poured", none), "poured", "poured", defArgs s1Z, defBody s1Z, defScope s1Z, [.int 0], []⟩
def a0y : He.DefD := ⟨("_law_kinds", none), "_law_kinds", "_law_kinds", defArgs s2Z, defBody s2Z, defScope s2Z, [], []⟩
def a0z : He.DefD := ⟨("_law_right", none), "_law_right", "_law_right", defArgs s3Z, defBody s3Z, defScope s3Z, [], []⟩
def a0n : He.DefD := ⟨("_law_refused", none), "_law_refused", "_law_refused", defArgs s4Z, defBody s4Z, defScope s4Z, [], []⟩
def d_law : He.DefD := ⟨("law", none), "law", "law", defArgs s5Z, defBody s5Z, defScope s5Z, [], []⟩
def fn : List He.DefD := [a0x, a2c, a0y, a0z, a0n, d_law]
def fa : List He.Fa := [.glo "poured_all", .glo "poured", .glo "_law_kinds", .glo "_law_right", .glo "_law_refused", .glo "law", .free "list", .free "tuple", .glo "Short", .exc "Short", .glo "Against", .exc "Against", .glo "BadNumber", .exc "BadNumber", .glo "BadRow", .exc "BadRow", .glo "Full", .exc "Full", .glo "NoBoat", .exc "NoBoat", .glo "NotLinked", .exc "NotLinked", .glo "NotNow", .exc "NotNow", .glo "TooDry", .exc "TooDry", .glo "TooMany", .exc "TooMany", .glo "TooWide", .exc "TooWide", .glo "Torn", .exc "Torn", .glo "Twice", .exc "Twice", .glo "Unknown", .exc "Unknown", .free "isinstance", .glo "CanalError", .exc "CanalError", .free "ValueError", .free "range", .exm "CanalError" "CanalError" true, .exm "Short" "CanalError" true, .exm "Against" "CanalError" true, .exm "NotNow" "CanalError" true, .exm "Full" "CanalError" true, .exm "NoBoat" "CanalError" true, .exm "BadRow" "CanalError" true, .exm "BadNumber" "CanalError" true, .exm "Twice" "CanalError" true, .exm "Unknown" "CanalError" true, .exm "TooMany" "CanalError" true, .exm "NotLinked" "CanalError" true, .exm "TooWide" "CanalError" true, .exm "TooDry" "CanalError" true, .exm "Torn" "CanalError" true]
def exL (K : PySem.W.Frag) : List Bool := [excB K (He.ga K "Torn"), kitV K (.ref (He.ga K "Torn")) (.ref (He.ga K "Against")) false, excB K (He.ga K "TooDry"), kitV K (.ref (He.ga K "TooDry")) (.ref (He.ga K "Against")) false, excB K (He.ga K "TooWide"), kitV K (.ref (He.ga K "TooWide")) (.ref (He.ga K "Against")) false, excB K (He.ga K "NotLinked"), kitV K (.ref (He.ga K "NotLinked")) (.ref (He.ga K "Against")) false, excB K (He.ga K "TooMany"), kitV K (.ref (He.ga K "TooMany")) (.ref (He.ga K "Against")) false, excB K (He.ga K "Unknown"), kitV K (.ref (He.ga K "Unknown")) (.ref (He.ga K "Against")) false, excB K (He.ga K "Twice"), kitV K (.ref (He.ga K "Twice")) (.ref (He.ga K "Against")) false, excB K (He.ga K "BadNumber"), kitV K (.ref (He.ga K "BadNumber")) (.ref (He.ga K "Against")) false, excB K (He.ga K "BadRow"), kitV K (.ref (He.ga K "BadRow")) (.ref (He.ga K "Against")) false, excB K (He.ga K "NoBoat"), kitV K (.ref (He.ga K "NoBoat")) (.ref (He.ga K "Against")) false, excB K (He.ga K "Full"), kitV K (.ref (He.ga K "Full")) (.ref (He.ga K "Against")) false, excB K (He.ga K "NotNow"), kitV K (.ref (He.ga K "NotNow")) (.ref (He.ga K "Against")) false, excB K (He.ga K "Against"), kitV K (.ref (He.ga K "Against")) (.ref (He.ga K "Against")) true, excB K (He.ga K "Short"), kitV K (.ref (He.ga K "Short")) (.ref (He.ga K "Against")) false, excB K (He.ga K "CanalError"), kitV K (.ref (He.ga K "CanalError")) (.ref (He.ga K "Against")) false, kitV K (.ref (He.ga K "Torn")) (.ref (He.ga K "BadNumber")) false, kitV K (.ref (He.ga K "TooDry")) (.ref (He.ga K "BadNumber")) false, kitV K (.ref (He.ga K "TooWide")) (.ref (He.ga K "BadNumber")) false, kitV K (.ref (He.ga K "NotLinked")) (.ref (He.ga K "BadNumber")) false, kitV K (.ref (He.ga K "TooMany")) (.ref (He.ga K "BadNumber")) false, kitV K (.ref (He.ga K "Unknown")) (.ref (He.ga K "BadNumber")) false, kitV K (.ref (He.ga K "Twice")) (.ref (He.ga K "BadNumber")) false, kitV K (.ref (He.ga K "BadNumber")) (.ref (He.ga K "BadNumber")) true, kitV K (.ref (He.ga K "BadRow")) (.ref (He.ga K "BadNumber")) false, kitV K (.ref (He.ga K "NoBoat")) (.ref (He.ga K "BadNumber")) false, kitV K (.ref (He.ga K "Full")) (.ref (He.ga K "BadNumber")) false, kitV K (.ref (He.ga K "NotNow")) (.ref (He.ga K "BadNumber")) false, kitV K (.ref (He.ga K "Against")) (.ref (He.ga K "BadNumber")) false, kitV K (.ref (He.ga K "Short")) (.ref (He.ga K "BadNumber")) false, kitV K (.ref (He.ga K "CanalError")) (.ref (He.ga K "BadNumber")) false, kitV K (.ref (He.ga K "Torn")) (.ref (He.ga K "BadRow")) false, kitV K (.ref (He.ga K "TooDry")) (.ref (He.ga K "BadRow")) false, kitV K (.ref (He.ga K "TooWide")) (.ref (He.ga K "BadRow")) false, kitV K (.ref (He.ga K "NotLinked")) (.ref (He.ga K "BadRow")) false, kitV K (.ref (He.ga K "TooMany")) (.ref (He.ga K "BadRow")) false, kitV K (.ref (He.ga K "Unknown")) (.ref (He.ga K "BadRow")) false, kitV K (.ref (He.ga K "Twice")) (.ref (He.ga K "BadRow")) false, kitV K (.ref (He.ga K "BadNumber")) (.ref (He.ga K "BadRow")) false, kitV K (.ref (He.ga K "BadRow")) (.ref (He.ga K "BadRow")) true, kitV K (.ref (He.ga K "NoBoat")) (.ref (He.ga K "BadRow")) false, kitV K (.ref (He.ga K "Full")) (.ref (He.ga K "BadRow")) false, kitV K (.ref (He.ga K "NotNow")) (.ref (He.ga K "BadRow")) false, kitV K (.ref (He.ga K "Against")) (.ref (He.ga K "BadRow")) false, kitV K (.ref (He.ga K "Short")) (.ref (He.ga K "BadRow")) false, kitV K (.ref (He.ga K "CanalError")) (.ref (He.ga K "BadRow")) false, kitV K (.ref (He.ga K "Torn")) (.ref (He.ga K "Full")) false, kitV K (.ref (He.ga K "TooDry")) (.ref (He.ga K "Full")) false, kitV K (.ref (He.ga K "TooWide")) (.ref (He.ga K "Full")) false, kitV K (.ref (He.ga K "NotLinked")) (.ref (He.ga K "Full")) false, kitV K (.ref (He.ga K "TooMany")) (.ref (He.ga K "Full")) false, kitV K (.ref (He.ga K "Unknown")) (.ref (He.ga K "Full")) false, kitV K (.ref (He.ga K "Twice")) (.ref (He.ga K "Full")) false, kitV K (.ref (He.ga K "BadNumber")) (.ref (He.ga K "Full")) false, kitV K (.ref (He.ga K "BadRow")) (.ref (He.ga K "Full")) false, kitV K (.ref (He.ga K "NoBoat")) (.ref (He.ga K "Full")) false, kitV K (.ref (He.ga K "Full")) (.ref (He.ga K "Full")) true, kitV K (.ref (He.ga K "NotNow")) (.ref (He.ga K "Full")) false, kitV K (.ref (He.ga K "Against")) (.ref (He.ga K "Full")) false, kitV K (.ref (He.ga K "Short")) (.ref (He.ga K "Full")) false, kitV K (.ref (He.ga K "CanalError")) (.ref (He.ga K "Full")) false, kitV K (.ref (He.ga K "Torn")) (.ref (He.ga K "NoBoat")) false, kitV K (.ref (He.ga K "TooDry")) (.ref (He.ga K "NoBoat")) false, kitV K (.ref (He.ga K "TooWide")) (.ref (He.ga K "NoBoat")) false, kitV K (.ref (He.ga K "NotLinked")) (.ref (He.ga K "NoBoat")) false, kitV K (.ref (He.ga K "TooMany")) (.ref (He.ga K "NoBoat")) false, kitV K (.ref (He.ga K "Unknown")) (.ref (He.ga K "NoBoat")) false, kitV K (.ref (He.ga K "Twice")) (.ref (He.ga K "NoBoat")) false, kitV K (.ref (He.ga K "BadNumber")) (.ref (He.ga K "NoBoat")) false, kitV K (.ref (He.ga K "BadRow")) (.ref (He.ga K "NoBoat")) false, kitV K (.ref (He.ga K "NoBoat")) (.ref (He.ga K "NoBoat")) true, kitV K (.ref (He.ga K "Full")) (.ref (He.ga K "NoBoat")) false, kitV K (.ref (He.ga K "NotNow")) (.ref (He.ga K "NoBoat")) false, kitV K (.ref (He.ga K "Against")) (.ref (He.ga K "NoBoat")) false, kitV K (.ref (He.ga K "Short")) (.ref (He.ga K "NoBoat")) false, kitV K (.ref (He.ga K "CanalError")) (.ref (He.ga K "NoBoat")) false, kitV K (.ref (He.ga K "Torn")) (.ref (He.ga K "NotLinked")) false, kitV K (.ref (He.ga K "TooDry")) (.ref (He.ga K "NotLinked")) false, kitV K (.ref (He.ga K "TooWide")) (.ref (He.ga K "NotLinked")) false, kitV K (.ref (He.ga K "NotLinked")) (.ref (He.ga K "NotLinked")) true, kitV K (.ref (He.ga K "TooMany")) (.ref (He.ga K "NotLinked")) false, kitV K (.ref (He.ga K "Unknown")) (.ref (He.ga K "NotLinked")) false, kitV K (.ref (He.ga K "Twice")) (.ref (He.ga K "NotLinked")) false, kitV K (.ref (He.ga K "BadNumber")) (.ref (He.ga K "NotLinked")) false, kitV K (.ref (He.ga K "BadRow")) (.ref (He.ga K "NotLinked")) false, kitV K (.ref (He.ga K "NoBoat")) (.ref (He.ga K "NotLinked")) false, kitV K (.ref (He.ga K "Full")) (.ref (He.ga K "NotLinked")) false, kitV K (.ref (He.ga K "NotNow")) (.ref (He.ga K "NotLinked")) false, kitV K (.ref (He.ga K "Against")) (.ref (He.ga K "NotLinked")) false, kitV K (.ref (He.ga K "Short")) (.ref (He.ga K "NotLinked")) false, kitV K (.ref (He.ga K "CanalError")) (.ref (He.ga K "NotLinked")) false, kitV K (.ref (He.ga K "Torn")) (.ref (He.ga K "NotNow")) false, kitV K (.ref (He.ga K "TooDry")) (.ref (He.ga K "NotNow")) false, kitV K (.ref (He.ga K "TooWide")) (.ref (He.ga K "NotNow")) false, kitV K (.ref (He.ga K "NotLinked")) (.ref (He.ga K "NotNow")) false, kitV K (.ref (He.ga K "TooMany")) (.ref (He.ga K "NotNow")) false, kitV K (.ref (He.ga K "Unknown")) (.ref (He.ga K "NotNow")) false, kitV K (.ref (He.ga K "Twice")) (.ref (He.ga K "NotNow")) false, kitV K (.ref (He.ga K "BadNumber")) (.ref (He.ga K "NotNow")) false, kitV K (.ref (He.ga K "BadRow")) (.ref (He.ga K "NotNow")) false, kitV K (.ref (He.ga K "NoBoat")) (.ref (He.ga K "NotNow")) false, kitV K (.ref (He.ga K "Full")) (.ref (He.ga K "NotNow")) false, kitV K (.ref (He.ga K "NotNow")) (.ref (He.ga K "NotNow")) true, kitV K (.ref (He.ga K "Against")) (.ref (He.ga K "NotNow")) false, kitV K (.ref (He.ga K "Short")) (.ref (He.ga K "NotNow")) false, kitV K (.ref (He.ga K "CanalError")) (.ref (He.ga K "NotNow")) false, kitV K (.ref (He.ga K "Torn")) (.ref (He.ga K "Short")) false, kitV K (.ref (He.ga K "TooDry")) (.ref (He.ga K "Short")) false, kitV K (.ref (He.ga K "TooWide")) (.ref (He.ga K "Short")) false, kitV K (.ref (He.ga K "NotLinked")) (.ref (He.ga K "Short")) false, kitV K (.ref (He.ga K "TooMany")) (.ref (He.ga K "Short")) false, kitV K (.ref (He.ga K "Unknown")) (.ref (He.ga K "Short")) false, kitV K (.ref (He.ga K "Twice")) (.ref (He.ga K "Short")) false, kitV K (.ref (He.ga K "BadNumber")) (.ref (He.ga K "Short")) false, kitV K (.ref (He.ga K "BadRow")) (.ref (He.ga K "Short")) false, kitV K (.ref (He.ga K "NoBoat")) (.ref (He.ga K "Short")) false, kitV K (.ref (He.ga K "Full")) (.ref (He.ga K "Short")) false, kitV K (.ref (He.ga K "NotNow")) (.ref (He.ga K "Short")) false, kitV K (.ref (He.ga K "Against")) (.ref (He.ga K "Short")) false, kitV K (.ref (He.ga K "Short")) (.ref (He.ga K "Short")) true, kitV K (.ref (He.ga K "CanalError")) (.ref (He.ga K "Short")) false, kitV K (.ref (He.ga K "Torn")) (.ref (He.ga K "TooDry")) false, kitV K (.ref (He.ga K "TooDry")) (.ref (He.ga K "TooDry")) true, kitV K (.ref (He.ga K "TooWide")) (.ref (He.ga K "TooDry")) false, kitV K (.ref (He.ga K "NotLinked")) (.ref (He.ga K "TooDry")) false, kitV K (.ref (He.ga K "TooMany")) (.ref (He.ga K "TooDry")) false, kitV K (.ref (He.ga K "Unknown")) (.ref (He.ga K "TooDry")) false, kitV K (.ref (He.ga K "Twice")) (.ref (He.ga K "TooDry")) false, kitV K (.ref (He.ga K "BadNumber")) (.ref (He.ga K "TooDry")) false, kitV K (.ref (He.ga K "BadRow")) (.ref (He.ga K "TooDry")) false, kitV K (.ref (He.ga K "NoBoat")) (.ref (He.ga K "TooDry")) false, kitV K (.ref (He.ga K "Full")) (.ref (He.ga K "TooDry")) false, kitV K (.ref (He.ga K "NotNow")) (.ref (He.ga K "TooDry")) false, kitV K (.ref (He.ga K "Against")) (.ref (He.ga K "TooDry")) false, kitV K (.ref (He.ga K "Short")) (.ref (He.ga K "TooDry")) false, kitV K (.ref (He.ga K "CanalError")) (.ref (He.ga K "TooDry")) false, kitV K (.ref (He.ga K "Torn")) (.ref (He.ga K "TooMany")) false, kitV K (.ref (He.ga K "TooDry")) (.ref (He.ga K "TooMany")) false, kitV K (.ref (He.ga K "TooWide")) (.ref (He.ga K "TooMany")) false, kitV K (.ref (He.ga K "NotLinked")) (.ref (He.ga K "TooMany")) false, kitV K (.ref (He.ga K "TooMany")) (.ref (He.ga K "TooMany")) true, kitV K (.ref (He.ga K "Unknown")) (.ref (He.ga K "TooMany")) false, kitV K (.ref (He.ga K "Twice")) (.ref (He.ga K "TooMany")) false, kitV K (.ref (He.ga K "BadNumber")) (.ref (He.ga K "TooMany")) false, kitV K (.ref (He.ga K "BadRow")) (.ref (He.ga K "TooMany")) false, kitV K (.ref (He.ga K "NoBoat")) (.ref (He.ga K "TooMany")) false, kitV K (.ref (He.ga K "Full")) (.ref (He.ga K "TooMany")) false, kitV K (.ref (He.ga K "NotNow")) (.ref (He.ga K "TooMany")) false, kitV K (.ref (He.ga K "Against")) (.ref (He.ga K "TooMany")) false, kitV K (.ref (He.ga K "Short")) (.ref (He.ga K "TooMany")) false, kitV K (.ref (He.ga K "CanalError")) (.ref (He.ga K "TooMany")) false, kitV K (.ref (He.ga K "Torn")) (.ref (He.ga K "TooWide")) false, kitV K (.ref (He.ga K "TooDry")) (.ref (He.ga K "TooWide")) false, kitV K (.ref (He.ga K "TooWide")) (.ref (He.ga K "TooWide")) true, kitV K (.ref (He.ga K "NotLinked")) (.ref (He.ga K "TooWide")) false, kitV K (.ref (He.ga K "TooMany")) (.ref (He.ga K "TooWide")) false, kitV K (.ref (He.ga K "Unknown")) (.ref (He.ga K "TooWide")) false, kitV K (.ref (He.ga K "Twice")) (.ref (He.ga K "TooWide")) false, kitV K (.ref (He.ga K "BadNumber")) (.ref (He.ga K "TooWide")) false, kitV K (.ref (He.ga K "BadRow")) (.ref (He.ga K "TooWide")) false, kitV K (.ref (He.ga K "NoBoat")) (.ref (He.ga K "TooWide")) false, kitV K (.ref (He.ga K "Full")) (.ref (He.ga K "TooWide")) false, kitV K (.ref (He.ga K "NotNow")) (.ref (He.ga K "TooWide")) false, kitV K (.ref (He.ga K "Against")) (.ref (He.ga K "TooWide")) false, kitV K (.ref (He.ga K "Short")) (.ref (He.ga K "TooWide")) false, kitV K (.ref (He.ga K "CanalError")) (.ref (He.ga K "TooWide")) false, kitV K (.ref (He.ga K "Torn")) (.ref (He.ga K "Torn")) true, kitV K (.ref (He.ga K "TooDry")) (.ref (He.ga K "Torn")) false, kitV K (.ref (He.ga K "TooWide")) (.ref (He.ga K "Torn")) false, kitV K (.ref (He.ga K "NotLinked")) (.ref (He.ga K "Torn")) false, kitV K (.ref (He.ga K "TooMany")) (.ref (He.ga K "Torn")) false, kitV K (.ref (He.ga K "Unknown")) (.ref (He.ga K "Torn")) false, kitV K (.ref (He.ga K "Twice")) (.ref (He.ga K "Torn")) false, kitV K (.ref (He.ga K "BadNumber")) (.ref (He.ga K "Torn")) false, kitV K (.ref (He.ga K "BadRow")) (.ref (He.ga K "Torn")) false, kitV K (.ref (He.ga K "NoBoat")) (.ref (He.ga K "Torn")) false, kitV K (.ref (He.ga K "Full")) (.ref (He.ga K "Torn")) false, kitV K (.ref (He.ga K "NotNow")) (.ref (He.ga K "Torn")) false, kitV K (.ref (He.ga K "Against")) (.ref (He.ga K "Torn")) false, kitV K (.ref (He.ga K "Short")) (.ref (He.ga K "Torn")) false, kitV K (.ref (He.ga K "CanalError")) (.ref (He.ga K "Torn")) false, kitV K (.ref (He.ga K "Torn")) (.ref (He.ga K "Twice")) false, kitV K (.ref (He.ga K "TooDry")) (.ref (He.ga K "Twice")) false, kitV K (.ref (He.ga K "TooWide")) (.ref (He.ga K "Twice")) false, kitV K (.ref (He.ga K "NotLinked")) (.ref (He.ga K "Twice")) false, kitV K (.ref (He.ga K "TooMany")) (.ref (He.ga K "Twice")) false, kitV K (.ref (He.ga K "Unknown")) (.ref (He.ga K "Twice")) false, kitV K (.ref (He.ga K "Twice")) (.ref (He.ga K "Twice")) true, kitV K (.ref (He.ga K "BadNumber")) (.ref (He.ga K "Twice")) false, kitV K (.ref (He.ga K "BadRow")) (.ref (He.ga K "Twice")) false, kitV K (.ref (He.ga K "NoBoat")) (.ref (He.ga K "Twice")) false, kitV K (.ref (He.ga K "Full")) (.ref (He.ga K "Twice")) false, kitV K (.ref (He.ga K "NotNow")) (.ref (He.ga K "Twice")) false, kitV K (.ref (He.ga K "Against")) (.ref (He.ga K "Twice")) false, kitV K (.ref (He.ga K "Short")) (.ref (He.ga K "Twice")) false, kitV K (.ref (He.ga K "CanalError")) (.ref (He.ga K "Twice")) false, kitV K (.ref (He.ga K "Torn")) (.ref (He.ga K "Unknown")) false, kitV K (.ref (He.ga K "TooDry")) (.ref (He.ga K "Unknown")) false, kitV K (.ref (He.ga K "TooWide")) (.ref (He.ga K "Unknown")) false, kitV K (.ref (He.ga K "NotLinked")) (.ref (He.ga K "Unknown")) false, kitV K (.ref (He.ga K "TooMany")) (.ref (He.ga K "Unknown")) false, kitV K (.ref (He.ga K "Unknown")) (.ref (He.ga K "Unknown")) true, kitV K (.ref (He.ga K "Twice")) (.ref (He.ga K "Unknown")) false, kitV K (.ref (He.ga K "BadNumber")) (.ref (He.ga K "Unknown")) false, kitV K (.ref (He.ga K "BadRow")) (.ref (He.ga K "Unknown")) false, kitV K (.ref (He.ga K "NoBoat")) (.ref (He.ga K "Unknown")) false, kitV K (.ref (He.ga K "Full")) (.ref (He.ga K "Unknown")) false, kitV K (.ref (He.ga K "NotNow")) (.ref (He.ga K "Unknown")) false, kitV K (.ref (He.ga K "Against")) (.ref (He.ga K "Unknown")) false, kitV K (.ref (He.ga K "Short")) (.ref (He.ga K "Unknown")) false, kitV K (.ref (He.ga K "CanalError")) (.ref (He.ga K "Unknown")) false, kitV K (.ref (He.ga K "Torn")) (.ref (He.ga K "CanalError")) true, kitV K (.ref (He.ga K "TooDry")) (.ref (He.ga K "CanalError")) true, kitV K (.ref (He.ga K "TooWide")) (.ref (He.ga K "CanalError")) true, kitV K (.ref (He.ga K "NotLinked")) (.ref (He.ga K "CanalError")) true, kitV K (.ref (He.ga K "TooMany")) (.ref (He.ga K "CanalError")) true, kitV K (.ref (He.ga K "Unknown")) (.ref (He.ga K "CanalError")) true, kitV K (.ref (He.ga K "Twice")) (.ref (He.ga K "CanalError")) true, kitV K (.ref (He.ga K "BadNumber")) (.ref (He.ga K "CanalError")) true, kitV K (.ref (He.ga K "BadRow")) (.ref (He.ga K "CanalError")) true, kitV K (.ref (He.ga K "NoBoat")) (.ref (He.ga K "CanalError")) true, kitV K (.ref (He.ga K "Full")) (.ref (He.ga K "CanalError")) true, kitV K (.ref (He.ga K "NotNow")) (.ref (He.ga K "CanalError")) true, kitV K (.ref (He.ga K "Against")) (.ref (He.ga K "CanalError")) true, kitV K (.ref (He.ga K "Short")) (.ref (He.ga K "CanalError")) true, kitV K (.ref (He.ga K "CanalError")) (.ref (He.ga K "CanalError")) true, kitV K (.ref (He.ga K "Torn")) (.type "ValueError") true, kitV K (.ref (He.ga K "TooDry")) (.type "ValueError") true, kitV K (.ref (He.ga K "TooWide")) (.type "ValueError") true, kitV K (.ref (He.ga K "NotLinked")) (.type "ValueError") true, kitV K (.ref (He.ga K "TooMany")) (.type "ValueError") true, kitV K (.ref (He.ga K "Unknown")) (.type "ValueError") true, kitV K (.ref (He.ga K "Twice")) (.type "ValueError") true, kitV K (.ref (He.ga K "BadNumber")) (.type "ValueError") true, kitV K (.ref (He.ga K "BadRow")) (.type "ValueError") true, kitV K (.ref (He.ga K "NoBoat")) (.type "ValueError") true, kitV K (.ref (He.ga K "Full")) (.type "ValueError") true, kitV K (.ref (He.ga K "NotNow")) (.type "ValueError") true, kitV K (.ref (He.ga K "Against")) (.type "ValueError") true, kitV K (.ref (He.ga K "Short")) (.type "ValueError") true, kitV K (.ref (He.ga K "CanalError")) (.type "ValueError") true]
abbrev ex (K : PySem.W.Frag) : Bool := (exL K).all id
abbrev R0 : PySem.W.OpenRow := PySem.W.OpenLaw.row PySem.Challenge.rw_lockhouse_k10_refusals_apart
abbrev hk : PySem.W.Hook := hookX 5 fa fn ex
def ob (s : PySem.W.SharedT) : He.AlD := obsXG 5 fa fn ex (HandSHeadRun.getT s)
theorem ob_eq (s : PySem.W.SharedT) : ob s = hk.obs s.abs := a3b (HandSHeadRun.getT_eq s)
def names : List PySem.Str := (["CanalError", "Short", "Against", "NotNow", "Full", "NoBoat", "BadRow", "BadNumber", "Twice", "Unknown", "TooMany", "NotLinked", "TooWide", "TooDry", "Torn", "poured_all"] : List PySem.Str) ++ (["poured", "_law_kinds", "_law_right", "_law_refused"] : List PySem.Str)
theorem run (w : World) : HandSHeadRun.RunEq R0 (PySem.W.view R0.prog [23]) hk ob 13400 names w := by
  intro os
  kernel_rfl
def a09 : Nat → Option Bool := tabB [(0, false), (1, false), (2, true), (3, false), (4, false), (5, false), (6, false), (7, false), (8, false), (9, false), (10, false), (11, false), (12, false), (13, false), (14, false)]
def a00 : Nat → Option Bool := tabB [(0, false), (1, false), (2, false), (3, false), (4, false), (5, false), (6, false), (7, true), (8, false), (9, false), (10, false), (11, false), (12, false), (13, false), (14, false)]
def a1v : Nat → Option Bool := tabB [(0, false), (1, false), (2, false), (3, false), (4, false), (5, false), (6, true), (7, false), (8, false), (9, false), (10, false), (11, false), (12, false), (13, false), (14, false)]
def a21 : Nat → Option Bool := tabB [(0, false), (1, false), (2, false), (3, false), (4, true), (5, false), (6, false), (7, false), (8, false), (9, false), (10, false), (11, false), (12, false), (13, false), (14, false)]
def a1w : Nat → Option Bool := tabB [(0, false), (1, false), (2, false), (3, false), (4, false), (5, true), (6, false), (7, false), (8, false), (9, false), (10, false), (11, false), (12, false), (13, false), (14, false)]
def a01 : Nat → Option Bool := tabB [(0, false), (1, false), (2, false), (3, false), (4, false), (5, false), (6, false), (7, false), (8, false), (9, false), (10, false), (11, true), (12, false), (13, false), (14, false)]
def a1x : Nat → Option Bool := tabB [(0, false), (1, false), (2, false), (3, true), (4, false), (5, false), (6, false), (7, false), (8, false), (9, false), (10, false), (11, false), (12, false), (13, false), (14, false)]
def a2d : Nat → Option Bool := tabB [(0, false), (1, true), (2, false), (3, false), (4, false), (5, false), (6, false), (7, false), (8, false), (9, false), (10, false), (11, false), (12, false), (13, false), (14, false)]
def a1y : Nat → Option Bool := tabB [(0, false), (1, false), (2, false), (3, false), (4, false), (5, false), (6, false), (7, false), (8, false), (9, false), (10, false), (11, false), (12, false), (13, true), (14, false)]
def a1a : Nat → Option Bool := tabB [(0, false), (1, false), (2, false), (3, false), (4, false), (5, false), (6, false), (7, false), (8, false), (9, false), (10, true), (11, false), (12, false), (13, false), (14, false)]
def a1b : Nat → Option Bool := tabB [(0, false), (1, false), (2, false), (3, false), (4, false), (5, false), (6, false), (7, false), (8, false), (9, false), (10, false), (11, false), (12, true), (13, false), (14, false)]
def a22 : Nat → Option Bool := tabB [(0, false), (1, false), (2, false), (3, false), (4, false), (5, false), (6, false), (7, false), (8, false), (9, false), (10, false), (11, false), (12, false), (13, false), (14, true)]
def a2e : Nat → Option Bool := tabB [(0, false), (1, false), (2, false), (3, false), (4, false), (5, false), (6, false), (7, false), (8, true), (9, false), (10, false), (11, false), (12, false), (13, false), (14, false)]
def a1c : Nat → Option Bool := tabB [(0, false), (1, false), (2, false), (3, false), (4, false), (5, false), (6, false), (7, false), (8, false), (9, true), (10, false), (11, false), (12, false), (13, false), (14, false)]
def a0s : Nat → Option Bool := tabB [(0, true), (1, true), (2, true), (3, true), (4, true), (5, true), (6, true), (7, true), (8, true), (9, true), (10, true), (11, true), (12, true), (13, true), (14, true)]
def a0t : Nat → Option Bool := tabB [(0, true), (1, true), (2, true), (3, true), (4, true), (5, true), (6, true), (7, true), (8, true), (9, true), (10, true), (11, true), (12, true), (13, true), (14, true)]
def pp_CanalError : Nat → Option Bool := fun j => match j with
  | 0 => some true
  | 1 => some true
  | 2 => some true
  | 3 => some true
  | 4 => some true
  | 5 => some true
  | 6 => some true
  | 7 => some true
  | 8 => some true
  | 9 => some true
  | 10 => some true
  | 11 => some true
  | 12 => some true
  | 13 => some true
  | 14 => some true
  | _ => none
abbrev ci_Short : Nat := 1
abbrev ci_Against : Nat := 2
abbrev ci_NotNow : Nat := 3
abbrev ci_Full : Nat := 4
abbrev ci_NoBoat : Nat := 5
abbrev ci_BadRow : Nat := 6
abbrev ci_BadNumber : Nat := 7
abbrev ci_Twice : Nat := 8
abbrev ci_Unknown : Nat := 9
abbrev ci_TooMany : Nat := 10
abbrev ci_NotLinked : Nat := 11
abbrev ci_TooWide : Nat := 12
abbrev ci_TooDry : Nat := 13
abbrev ci_Torn : Nat := 14
structure Tx (w : World) (K : PySem.W.Frag) (mg : Str → Option Value) (ca : CA) : Prop where
  n_list : mg "list" = none
  n_tuple : mg "tuple" = none
  e_Short : ExcF K mg "Short" (ca 1)
  e_Against : ExcF K mg "Against" (ca 2)
  e_BadNumber : ExcF K mg "BadNumber" (ca 7)
  e_BadRow : ExcF K mg "BadRow" (ca 6)
  e_Full : ExcF K mg "Full" (ca 4)
  e_NoBoat : ExcF K mg "NoBoat" (ca 5)
  e_NotLinked : ExcF K mg "NotLinked" (ca 11)
  e_NotNow : ExcF K mg "NotNow" (ca 3)
  e_TooDry : ExcF K mg "TooDry" (ca 13)
  e_TooMany : ExcF K mg "TooMany" (ca 10)
  e_TooWide : ExcF K mg "TooWide" (ca 12)
  e_Torn : ExcF K mg "Torn" (ca 14)
  e_Twice : ExcF K mg "Twice" (ca 8)
  e_Unknown : ExcF K mg "Unknown" (ca 9)
  n_isinstance : mg "isinstance" = none
  ie_Against : ∀ j b, a09 j = some b → ExcC K (ca j) ∧ PySem.W.kitOne K (.ref (ca j)) (.ref (ca 2)) = some b
  ie_BadNumber : ∀ j b, a00 j = some b → ExcC K (ca j) ∧ PySem.W.kitOne K (.ref (ca j)) (.ref (ca 7)) = some b
  ie_BadRow : ∀ j b, a1v j = some b → ExcC K (ca j) ∧ PySem.W.kitOne K (.ref (ca j)) (.ref (ca 6)) = some b
  ie_Full : ∀ j b, a21 j = some b → ExcC K (ca j) ∧ PySem.W.kitOne K (.ref (ca j)) (.ref (ca 4)) = some b
  ie_NoBoat : ∀ j b, a1w j = some b → ExcC K (ca j) ∧ PySem.W.kitOne K (.ref (ca j)) (.ref (ca 5)) = some b
  ie_NotLinked : ∀ j b, a01 j = some b → ExcC K (ca j) ∧ PySem.W.kitOne K (.ref (ca j)) (.ref (ca 11)) = some b
  ie_NotNow : ∀ j b, a1x j = some b → ExcC K (ca j) ∧ PySem.W.kitOne K (.ref (ca j)) (.ref (ca 3)) = some b
  ie_Short : ∀ j b, a2d j = some b → ExcC K (ca j) ∧ PySem.W.kitOne K (.ref (ca j)) (.ref (ca 1)) = some b
  ie_TooDry : ∀ j b, a1y j = some b → ExcC K (ca j) ∧ PySem.W.kitOne K (.ref (ca j)) (.ref (ca 13)) = some b
  ie_TooMany : ∀ j b, a1a j = some b → ExcC K (ca j) ∧ PySem.W.kitOne K (.ref (ca j)) (.ref (ca 10)) = some b
  ie_TooWide : ∀ j b, a1b j = some b → ExcC K (ca j) ∧ PySem.W.kitOne K (.ref (ca j)) (.ref (ca 12)) = some b
  ie_Torn : ∀ j b, a22 j = some b → ExcC K (ca j) ∧ PySem.W.kitOne K (.ref (ca j)) (.ref (ca 14)) = some b
  ie_Twice : ∀ j b, a2e j = some b → ExcC K (ca j) ∧ PySem.W.kitOne K (.ref (ca j)) (.ref (ca 8)) = some b
  ie_Unknown : ∀ j b, a1c j = some b → ExcC K (ca j) ∧ PySem.W.kitOne K (.ref (ca j)) (.ref (ca 9)) = some b
  e_CanalError : ExcF K mg "CanalError" (ca 0)
  n_ValueError : mg "ValueError" = none
  n_range : mg "range" = none
  ie_CanalError : ∀ j b, a0s j = some b → ExcC K (ca j) ∧ PySem.W.kitOne K (.ref (ca j)) (.ref (ca 0)) = some b
  ie_ValueError : ∀ j b, a0t j = some b → ExcC K (ca j) ∧ PySem.W.kitOne K (.ref (ca j)) (.type "ValueError") = some b
  x_CanalError : ∀ j b, pp_CanalError j = some b → PySem.W.exmOne K (.ref (ca j)) (.ref (ca 0)) = some b
def m_poured_all (v_waters v_pours : D) : Res D :=
  fin (S := Unit) (B := Empty) ((((Res.ok v_waters) >>= fun x2 => (Res.ok []) >>= fun xs3 => Res.ok (x2 :: xs3)) >>= fun xs4 => D.toList xs4) >>= fun v_held_1 => ((((Res.ok v_pours) >>= fun x5 => D.seq x5) >>= fun xs7 => loopR (S := List D) (B := Empty) (T := D) (fun (s6 : List D) => un3 (fun v_source_8 v_target_9 v_amount_10 => ((((Res.ok v_source_8) >>= fun x11 => D.item (D.lst s6) x11) >>= fun x12 => (Res.ok v_amount_10) >>= fun x13 => D.sub x12 x13) >>= fun x14 => (Res.ok v_source_8) >>= fun x15 => setR s6 x15 x14 >>= fun v_held_16 => ((((Res.ok v_target_9) >>= fun x17 => D.item (D.lst v_held_16) x17) >>= fun x18 => (Res.ok v_amount_10) >>= fun x19 => D.add x18 x19) >>= fun x20 => (Res.ok v_target_9) >>= fun x21 => setR v_held_16 x21 x20 >>= fun v_held_22 => (Res.ok (Out.nx v_held_22)))))) xs7 v_held_1) >>= Out.then_ (fun s23 => ((((Res.ok (D.lst s23)) >>= fun x24 => (Res.ok []) >>= fun xs25 => Res.ok (x24 :: xs25)) >>= fun xs26 => D.toTup xs26) >>= fun x27 => Res.ok (Out.rt x27)))))
def m_poured (v_waters v_source v_target v_amount v_keep : D) : Res D :=
  fin (S := Unit) (B := Empty) ((((Res.ok v_keep) >>= fun x1 => (Res.ok D.non) >>= fun x2 => D.notN x1 x2 >>= D.toB) >>= fun b9 => if b9 then ((((Res.ok v_waters) >>= fun x3 => (Res.ok v_source) >>= fun x4 => D.item x3 x4) >>= fun x5 => (Res.ok v_amount) >>= fun x6 => D.sub x5 x6) >>= fun x7 => (Res.ok v_keep) >>= fun x8 => D.lt x7 x8 >>= D.toB) else Res.ok false) >>= fun b10 => if b10 then Res.up (Res.exc 1) else ((((Res.ok v_waters) >>= fun x25 => (((((((Res.ok v_source) >>= fun x15 => ((Res.ok v_target) >>= fun x13 => ((Res.ok v_amount) >>= fun x11 => (Res.ok []) >>= fun xs12 => Res.ok (x11 :: xs12)) >>= fun xs14 => Res.ok (x13 :: xs14)) >>= fun xs16 => Res.ok (x15 :: xs16)) >>= fun xs17 => Res.sized xs17 >>= fun xs18 => Res.ok (D.tup xs18)) >>= fun x19 => (Res.ok []) >>= fun xs20 => Res.ok (x19 :: xs20)) >>= fun xs21 => Res.sized xs21) >>= fun x22 => Res.ok (D.lst x22)) >>= fun x23 => (Res.ok []) >>= fun xs24 => Res.ok (x23 :: xs24)) >>= fun xs26 => Res.ok (x25 :: xs26)) >>= fun xs27 => F2 m_poured_all xs27) >>= fun x28 => Res.ok (Out.rt x28)))
def m__law_kinds (v_e : D) : Res D :=
  fin (S := Unit) (B := Empty) ((((((Res.ok v_e) >>= fun x2 => D.isX a2d x2) >>= fun x12 => (((Res.ok v_e) >>= fun x3 => D.isX a09 x3) >>= fun x10 => (((Res.ok v_e) >>= fun x4 => D.isX a1x x4) >>= fun x8 => (((Res.ok v_e) >>= fun x5 => D.isX a21 x5) >>= fun x6 => (Res.ok []) >>= fun xs7 => Res.ok (x6 :: xs7)) >>= fun xs9 => Res.ok (x8 :: xs9)) >>= fun xs11 => Res.ok (x10 :: xs11)) >>= fun xs13 => Res.ok (x12 :: xs13)) >>= fun xs14 => Res.sized xs14) >>= fun x15 => Res.ok (D.lst x15)) >>= fun v_kinds_1 => (((Res.ok v_kinds_1) >>= fun x31 => (((((Res.ok v_e) >>= fun x17 => D.isX a1w x17) >>= fun x27 => (((Res.ok v_e) >>= fun x18 => D.isX a1v x18) >>= fun x25 => (((Res.ok v_e) >>= fun x19 => D.isX a00 x19) >>= fun x23 => (((Res.ok v_e) >>= fun x20 => D.isX a2e x20) >>= fun x21 => (Res.ok []) >>= fun xs22 => Res.ok (x21 :: xs22)) >>= fun xs24 => Res.ok (x23 :: xs24)) >>= fun xs26 => Res.ok (x25 :: xs26)) >>= fun xs28 => Res.ok (x27 :: xs28)) >>= fun xs29 => Res.sized xs29) >>= fun x30 => Res.ok (D.lst x30)) >>= fun x32 => D.add x31 x32) >>= fun v_kinds_16 => (((Res.ok v_kinds_16) >>= fun x45 => (((((Res.ok v_e) >>= fun x34 => D.isX a1c x34) >>= fun x41 => (((Res.ok v_e) >>= fun x35 => D.isX a1a x35) >>= fun x39 => (((Res.ok v_e) >>= fun x36 => D.isX a01 x36) >>= fun x37 => (Res.ok []) >>= fun xs38 => Res.ok (x37 :: xs38)) >>= fun xs40 => Res.ok (x39 :: xs40)) >>= fun xs42 => Res.ok (x41 :: xs42)) >>= fun xs43 => Res.sized xs43) >>= fun x44 => Res.ok (D.lst x44)) >>= fun x46 => D.add x45 x46) >>= fun v_kinds_33 => (((Res.ok v_kinds_33) >>= fun x58 => (((((Res.ok v_e) >>= fun x47 => D.isX a1b x47) >>= fun x54 => (((Res.ok v_e) >>= fun x48 => D.isX a1y x48) >>= fun x52 => (((Res.ok v_e) >>= fun x49 => D.isX a22 x49) >>= fun x50 => (Res.ok []) >>= fun xs51 => Res.ok (x50 :: xs51)) >>= fun xs53 => Res.ok (x52 :: xs53)) >>= fun xs55 => Res.ok (x54 :: xs55)) >>= fun xs56 => Res.sized xs56) >>= fun x57 => Res.ok (D.lst x57)) >>= fun x59 => D.add x58 x59) >>= fun x60 => Res.ok (Out.rt x60)))))
def m__law_right (v_e v_k : D) : Res D :=
  fin (S := Unit) (B := Empty) ((((((Res.ok v_e) >>= fun x1 => D.isX a0s x1) >>= D.truth) >>= fun b2 => Res.ok (!b2)) >>= fun b5 => if b5 then Res.ok true else ((((Res.ok v_e) >>= fun x3 => D.isX a0t x3) >>= D.truth) >>= fun b4 => Res.ok (!b4))) >>= fun b6 => if b6 then Res.up ((Res.ok (D.bl false)) >>= fun x7 => Res.ok (Out.rt x7)) else (((((Res.ok v_e) >>= fun x8 => (Res.ok []) >>= fun xs9 => Res.ok (x8 :: xs9)) >>= fun xs10 => F1 m__law_kinds xs10) >>= fun x20 => (((((Res.ok (D.int 14)) >>= fun x11 => (Res.ok []) >>= fun xs12 => Res.ok (x11 :: xs12)) >>= fun xs13 => D.range1 xs13) >>= fun xs17 => a1n xs17 >>= fun xs18 => compR (lcF (fun v_j_14 => (Res.ok true)) (fun v_j_14 => ((Res.ok v_j_14) >>= fun x15 => (Res.ok v_k) >>= fun x16 => D.eq x15 x16))) xs18) >>= fun x19 => Res.ok (D.lst x19)) >>= fun x21 => D.eq x20 x21) >>= fun x22 => Res.ok (Out.rt x22)))
def m__law_refused (v_much : D) : Res D :=
  fin (S := Unit) (B := Empty) ((Res.ok D.non) >>= fun v_found_1 => (((tryR pp_CanalError ((((((Res.ok v_much) >>= fun x5 => ((Res.ok (D.int 0)) >>= fun x3 => (Res.ok []) >>= fun xs4 => Res.ok (x3 :: xs4)) >>= fun xs6 => Res.ok (x5 :: xs6)) >>= fun xs7 => Res.sized xs7 >>= fun xs8 => Res.ok (D.tup xs8)) >>= fun x17 => ((Res.ok (D.int 0)) >>= fun x15 => ((Res.ok (D.int 1)) >>= fun x13 => (((Res.ok v_much) >>= fun x9 => (Res.ok (D.int 1)) >>= fun x10 => D.add x9 x10) >>= fun x11 => (Res.ok []) >>= fun xs12 => Res.ok (x11 :: xs12)) >>= fun xs14 => Res.ok (x13 :: xs14)) >>= fun xs16 => Res.ok (x15 :: xs16)) >>= fun xs18 => Res.ok (x17 :: xs18)) >>= fun xs19 => F5 m_poured (xs19 ++ [D.int 0])) >>= fun _ => (Res.ok (Out.nx v_found_1))) (fun j2 => .ok (.nx ((fun j2 => (D.exn j2)) j2))) (fun _ _ => .bug)) : Res (Out (D) (Empty) (D))) >>= Out.then_ (fun s20 => ((Res.ok s20) >>= fun x21 => Res.ok (Out.rt x21)))))
def m_law (v_script : D) : Res D :=
  fin (S := Unit) (B := Empty) ((((((Res.ok (D.str (Str.ofString "a"))) >>= fun _ => Res.ok (D.exn ci_Short)) >>= fun x14 => (((Res.ok (D.str (Str.ofString "a"))) >>= fun _ => Res.ok (D.exn ci_Against)) >>= fun x12 => (((Res.ok (D.str (Str.ofString "a"))) >>= fun _ => Res.ok (D.exn ci_NotNow)) >>= fun x10 => (((Res.ok (D.str (Str.ofString "a"))) >>= fun _ => Res.ok (D.exn ci_Full)) >>= fun x8 => (((Res.ok (D.str (Str.ofString "a"))) >>= fun _ => Res.ok (D.exn ci_NoBoat)) >>= fun x6 => (((Res.ok (D.str (Str.ofString "a"))) >>= fun _ => Res.ok (D.exn ci_BadRow)) >>= fun x4 => (((Res.ok (D.str (Str.ofString "a"))) >>= fun _ => Res.ok (D.exn ci_BadNumber)) >>= fun x2 => (Res.ok []) >>= fun xs3 => Res.ok (x2 :: xs3)) >>= fun xs5 => Res.ok (x4 :: xs5)) >>= fun xs7 => Res.ok (x6 :: xs7)) >>= fun xs9 => Res.ok (x8 :: xs9)) >>= fun xs11 => Res.ok (x10 :: xs11)) >>= fun xs13 => Res.ok (x12 :: xs13)) >>= fun xs15 => Res.ok (x14 :: xs15)) >>= fun xs16 => Res.sized xs16) >>= fun x17 => Res.ok (D.lst x17)) >>= fun v_made_1 => (((Res.ok v_made_1) >>= fun x35 => (((((Res.ok (D.str (Str.ofString "a"))) >>= fun _ => Res.ok (D.exn ci_Twice)) >>= fun x31 => (((Res.ok (D.str (Str.ofString "a"))) >>= fun _ => Res.ok (D.exn ci_Unknown)) >>= fun x29 => (((Res.ok (D.str (Str.ofString "a"))) >>= fun _ => Res.ok (D.exn ci_TooMany)) >>= fun x27 => (((Res.ok (D.str (Str.ofString "a"))) >>= fun _ => Res.ok (D.exn ci_NotLinked)) >>= fun x25 => (((Res.ok (D.str (Str.ofString "a"))) >>= fun _ => Res.ok (D.exn ci_TooWide)) >>= fun x23 => (((Res.ok (D.str (Str.ofString "a"))) >>= fun _ => Res.ok (D.exn ci_TooDry)) >>= fun x21 => (((Res.ok (D.str (Str.ofString "a"))) >>= fun _ => Res.ok (D.exn ci_Torn)) >>= fun x19 => (Res.ok []) >>= fun xs20 => Res.ok (x19 :: xs20)) >>= fun xs22 => Res.ok (x21 :: xs22)) >>= fun xs24 => Res.ok (x23 :: xs24)) >>= fun xs26 => Res.ok (x25 :: xs26)) >>= fun xs28 => Res.ok (x27 :: xs28)) >>= fun xs30 => Res.ok (x29 :: xs30)) >>= fun xs32 => Res.ok (x31 :: xs32)) >>= fun xs33 => Res.sized xs33) >>= fun x34 => Res.ok (D.lst x34)) >>= fun x36 => D.add x35 x36) >>= fun v_made_18 => (((((Res.ok (D.int 14)) >>= fun x37 => (Res.ok []) >>= fun xs38 => Res.ok (x37 :: xs38)) >>= fun xs39 => D.range1 xs39) >>= fun xs41 => loopR (S := Unit) (B := Empty) (T := D) (fun (s40 : Unit) v_k_42 => (((((((Res.ok v_made_18) >>= fun x43 => (Res.ok v_k_42) >>= fun x44 => D.item x43 x44) >>= fun x47 => ((Res.ok v_k_42) >>= fun x45 => (Res.ok []) >>= fun xs46 => Res.ok (x45 :: xs46)) >>= fun xs48 => Res.ok (x47 :: xs48)) >>= fun xs49 => F2 m__law_right xs49) >>= D.truth) >>= fun b50 => Res.ok (!b50)) >>= fun b51 => if b51 then Res.up ((Res.ok (D.bl false)) >>= fun x52 => Res.ok (Out.rt x52)) else (Res.ok (Out.nx ())))) xs41 ()) >>= Out.then_ (fun s53 => (((((Res.ok v_script) >>= fun x58 => ((((Res.ok (D.int 0)) >>= fun x54 => (Res.ok []) >>= fun xs55 => Res.ok (x54 :: xs55)) >>= fun xs56 => Res.sized xs56) >>= fun x57 => Res.ok (D.lst x57)) >>= fun x59 => D.add x58 x59) >>= fun x60 => D.seq x60) >>= fun xs62 => loopR (S := Unit) (B := Empty) (T := D) (fun (s61 : Unit) v_cell_63 => (((((((((Res.ok v_cell_63) >>= fun x66 => ((Res.ok (D.int 10)) >>= fun x64 => (Res.ok (D.int 30)) >>= fun x65 => D.pow x64 x65) >>= fun x67 => D.mod x66 x67) >>= fun x68 => (Res.ok []) >>= fun xs69 => Res.ok (x68 :: xs69)) >>= fun xs70 => F1 m__law_refused xs70) >>= fun x73 => ((Res.ok (D.int 0)) >>= fun x71 => (Res.ok []) >>= fun xs72 => Res.ok (x71 :: xs72)) >>= fun xs74 => Res.ok (x73 :: xs74)) >>= fun xs75 => F2 m__law_right xs75) >>= D.truth) >>= fun b76 => Res.ok (!b76)) >>= fun b77 => if b77 then Res.up ((Res.ok (D.bl false)) >>= fun x78 => Res.ok (Out.rt x78)) else (Res.ok (Out.nx ())))) xs62 ()) >>= Out.then_ (fun s79 => ((Res.ok (D.bl true)) >>= fun x80 => Res.ok (Out.rt x80))))))))
section
variable {P : Program} {w : World} {K : PySem.W.Frag} {mg : Str → Option Value} {base : Heap} {ca : CA} {f : Addr} {fd : FuncData}
theorem q0Z : FnScope ["waters", "pours", "held", "source", "target", "amount"] ["waters", "pours"] (defScope s0Z) := ⟨rfl, rfl, rfl, by decide +kernel, rfl, by decide +kernel, by decide +kernel⟩
theorem v0Z : ((["waters", "pours", "held", "source", "target", "amount"] : List Str).all (locB (defScope s0Z))) = true := by decide +kernel
theorem d0Z : ((["waters", "pours", "held", "source", "target", "amount"] : List Str).all dbgB) = true := by decide +kernel
theorem g0Z : ((["list", "tuple"] : List Str).all (glB (defScope s0Z))) = true := by decide +kernel
theorem o0Z (D0 : FunD K "poured_all" "poured_all" (defArgs s0Z) (defBody s0Z) (defScope s0Z) [] [] f fd) (T : Tx w K mg ca) :
    FnOk P w K mg base (L2.CX P w) 1 f fd ["waters", "pours"] (spD K ca (F2 m_poured_all)) := by
  refine def_D D0 q0Z (fun ds h => ?_) (fun cdv A outer s H E ds hr nb => ?_)
  · obtain ⟨v_waters, v_pours, rfl⟩ := a18 h
    rfl
  · obtain ⟨v_waters, v_pours, rfl⟩ := a18 nb
    have po := passes_of (X := (cxOf (L2.CX P w) P w K mg base ["waters", "pours", "held", "source", "target", "amount"] "poured_all" (defScope s0Z) f cdv A outer s H E)) rfl
    exact ⟨Unit, fun _ => [], _, a06 (ρ' := [some (.d v_waters), some (.d v_pours), none, none, none, none]) (le_refl _) (a41 (i := 2) q0Z.nd rfl (lo v0Z 2 rfl) (a24 call_list_of a26 (gl g0Z 0 rfl) T.n_list a5b (a0d (e_vv v0Z d0Z 0 rfl rfl rfl) a_nil)) a0f (fun v_held_1 => (s_seq (emb' := (fun (s : List D) => [some (.d v_waters), some (.d v_pours), some (.ol none s), none, none, none])) (a36 (emb := (fun (s : List D) => [some (.d v_waters), some (.d v_pours), some (.ol none s), none, none, none])) (s0 := v_held_1) (i := 3) (j := 4) (l := 5) po rfl (i_seq (e_vv v0Z d0Z 1 rfl rfl rfl)) q0Z.nd rfl (lo v0Z 3 rfl) rfl (lo v0Z 4 rfl) rfl (lo v0Z 5 rfl) a0f (le_s (le_s (le_s (le_n (le_n (le_n a0f)))))) (fun s6 v_source_8 v_target_9 v_amount_10 => (a1m (i := 2) rfl (vi v0Z 2 rfl) (dbg1 d0Z 2 rfl) (dbg2 d0Z 2 rfl) rfl (e_op op_sub l_sub (a1q (i := 2) rfl (vi v0Z 2 rfl) (dbg1 d0Z 2 rfl) (dbg2 d0Z 2 rfl) rfl (e_vv v0Z d0Z 3 rfl rfl rfl)) (e_vv v0Z d0Z 5 rfl rfl rfl)) (e_vv v0Z d0Z 3 rfl rfl rfl) a0f (fun v_held_16 => (a1m (i := 2) rfl (vi v0Z 2 rfl) (dbg1 d0Z 2 rfl) (dbg2 d0Z 2 rfl) rfl (e_op a0q l_add (a1q (i := 2) rfl (vi v0Z 2 rfl) (dbg1 d0Z 2 rfl) (dbg2 d0Z 2 rfl) rfl (e_vv v0Z d0Z 4 rfl rfl rfl)) (e_vv v0Z d0Z 5 rfl rfl rfl)) (e_vv v0Z d0Z 4 rfl rfl rfl) a0f (fun v_held_22 => (s_nil (s := v_held_22) (le_s (le_s (le_s (le_n (le_n (le_n a0f))))))))))))) (fun s23 => (s_pub (i := 2) rfl (s_one (s_ret (a3u call_tuple_of a31 (gl g0Z 1 rfl) T.n_tuple a4c (a0d (e_vv v0Z d0Z 2 rfl rfl rfl) a_nil)) a0f))))))), rfl⟩
theorem q1Z : FnScope ["waters", "source", "target", "amount", "keep"] ["waters", "source", "target", "amount", "keep"] (defScope s1Z) := ⟨rfl, rfl, rfl, by decide +kernel, rfl, by decide +kernel, by decide +kernel⟩
theorem v1Z : ((["waters", "source", "target", "amount", "keep"] : List Str).all (locB (defScope s1Z))) = true := by decide +kernel
theorem d1Z : ((["waters", "source", "target", "amount", "keep"] : List Str).all dbgB) = true := by decide +kernel
theorem g1Z : ((["Short", "poured_all"] : List Str).all (glB (defScope s1Z))) = true := by decide +kernel
theorem o1Z (D0 : FunD K "poured" "poured" (defArgs s1Z) (defBody s1Z) (defScope s1Z) [.int 0] [] f fd) (T : Tx w K mg ca) (c_poured_all : Cal L2.CX P w K mg base "poured_all" 1 (spD K ca (F2 m_poured_all)) []) :
    FnOk P w K mg base (L2.CX P w) 2 f fd ["waters", "source", "target", "amount", "keep"] (spD K ca (F5 m_poured)) := by
  refine def_D D0 q1Z (fun ds h => ?_) (fun cdv A outer s H E ds hr nb => ?_)
  · obtain ⟨v_waters, v_source, v_target, v_amount, v_keep, rfl⟩ := a3q h
    rfl
  · obtain ⟨v_waters, v_source, v_target, v_amount, v_keep, rfl⟩ := a3q nb
    have tk : Takes (cxOf (L2.CX P w) P w K mg base ["waters", "source", "target", "amount", "keep"] "poured" (defScope s1Z) f cdv A outer s H E) (WD E) := takes_of rfl rfl rfl rfl
    exact ⟨Unit, fun _ => [], _, a06 (ρ' := [some (.d v_waters), some (.d v_source), some (.d v_target), some (.d v_amount), some (.d v_keep)]) (le_refl _) (s_ifx (nE := fun e : Empty => e.elim) (PW.pt (w_and (t_cmp op_notN a4x (e_vv v1Z d1Z 4 rfl rfl rfl) e_non (nomark _)) (a4v (t_cmp op_lt l_lt (e_op op_sub l_sub (a3k (e_vv v1Z d1Z 0 rfl rfl rfl) (e_vv v1Z d1Z 1 rfl rfl rfl)) (e_vv v1Z d1Z 3 rfl rfl rfl)) (e_vv v1Z d1Z 4 rfl rfl rfl) (nomark _))))) a0f (s_one (a32 rfl tk (T.e_Short.made (gl g1Z 0 rfl)) a0f)) (s_one (s_ret (a1p c_poured_all (hr.mono (by decide)) (gl g1Z 1 rfl) (passAt tk) (a0d (e_vv v1Z d1Z 0 rfl rfl rfl) (a0d (e_pub (e_lst (a0d (e_tup (a0d (e_vv v1Z d1Z 1 rfl rfl rfl) (a0d (e_vv v1Z d1Z 2 rfl rfl rfl) (a0d (e_vv v1Z d1Z 3 rfl rfl rfl) a_nil)))) a_nil))) a_nil))) a0f))), rfl⟩
theorem q2Z : FnScope ["e", "kinds"] ["e"] (defScope s2Z) := ⟨rfl, rfl, rfl, by decide +kernel, rfl, by decide +kernel, by decide +kernel⟩
theorem v2Z : ((["e", "kinds"] : List Str).all (locB (defScope s2Z))) = true := by decide +kernel
theorem d2Z : ((["e", "kinds"] : List Str).all dbgB) = true := by decide +kernel
theorem g2Z : ((["isinstance", "Short", "Against", "NotNow", "Full", "NoBoat", "BadRow", "BadNumber", "Twice", "Unknown", "TooMany", "NotLinked", "TooWide", "TooDry", "Torn"] : List Str).all (glB (defScope s2Z))) = true := by decide +kernel
theorem o2Z (D0 : FunD K "_law_kinds" "_law_kinds" (defArgs s2Z) (defBody s2Z) (defScope s2Z) [] [] f fd) (T : Tx w K mg ca) :
    FnOk P w K mg base (L2.CX P w) 1 f fd ["e"] (spD K ca (F1 m__law_kinds)) := by
  refine def_D D0 q2Z (fun ds h => ?_) (fun cdv A outer s H E ds hr nb => ?_)
  · obtain ⟨v_e, rfl⟩ := a08 h
    rfl
  · obtain ⟨v_e, rfl⟩ := a08 nb
    exact ⟨Unit, fun _ => [], _, a06 (ρ' := [some (.d v_e), none]) (le_refl _) (s_set (i := 1) q2Z.nd rfl (lo v2Z 1 rfl) (e_pub (e_lst (a0d (e_isX (e_vv v2Z d2Z 0 rfl rfl rfl) T.ie_Short (gl g2Z 0 rfl) T.n_isinstance a0e (c_own (gl g2Z 1 rfl) T.e_Short.g) (fun _ z => z)) (a0d (e_isX (e_vv v2Z d2Z 0 rfl rfl rfl) T.ie_Against (gl g2Z 0 rfl) T.n_isinstance a0e (c_own (gl g2Z 2 rfl) T.e_Against.g) (fun _ z => z)) (a0d (e_isX (e_vv v2Z d2Z 0 rfl rfl rfl) T.ie_NotNow (gl g2Z 0 rfl) T.n_isinstance a0e (c_own (gl g2Z 3 rfl) T.e_NotNow.g) (fun _ z => z)) (a0d (e_isX (e_vv v2Z d2Z 0 rfl rfl rfl) T.ie_Full (gl g2Z 0 rfl) T.n_isinstance a0e (c_own (gl g2Z 4 rfl) T.e_Full.g) (fun _ z => z)) a_nil)))))) a0f (fun v_kinds_1 => (s_set (i := 1) q2Z.nd rfl (lo v2Z 1 rfl) (e_op a0q l_add (e_vv v2Z d2Z 1 rfl rfl rfl) (e_pub (e_lst (a0d (e_isX (e_vv v2Z d2Z 0 rfl rfl rfl) T.ie_NoBoat (gl g2Z 0 rfl) T.n_isinstance a0e (c_own (gl g2Z 5 rfl) T.e_NoBoat.g) (fun _ z => z)) (a0d (e_isX (e_vv v2Z d2Z 0 rfl rfl rfl) T.ie_BadRow (gl g2Z 0 rfl) T.n_isinstance a0e (c_own (gl g2Z 6 rfl) T.e_BadRow.g) (fun _ z => z)) (a0d (e_isX (e_vv v2Z d2Z 0 rfl rfl rfl) T.ie_BadNumber (gl g2Z 0 rfl) T.n_isinstance a0e (c_own (gl g2Z 7 rfl) T.e_BadNumber.g) (fun _ z => z)) (a0d (e_isX (e_vv v2Z d2Z 0 rfl rfl rfl) T.ie_Twice (gl g2Z 0 rfl) T.n_isinstance a0e (c_own (gl g2Z 8 rfl) T.e_Twice.g) (fun _ z => z)) a_nil))))))) a0f (fun v_kinds_16 => (s_set (i := 1) q2Z.nd rfl (lo v2Z 1 rfl) (e_op a0q l_add (e_vv v2Z d2Z 1 rfl rfl rfl) (e_pub (e_lst (a0d (e_isX (e_vv v2Z d2Z 0 rfl rfl rfl) T.ie_Unknown (gl g2Z 0 rfl) T.n_isinstance a0e (c_own (gl g2Z 9 rfl) T.e_Unknown.g) (fun _ z => z)) (a0d (e_isX (e_vv v2Z d2Z 0 rfl rfl rfl) T.ie_TooMany (gl g2Z 0 rfl) T.n_isinstance a0e (c_own (gl g2Z 10 rfl) T.e_TooMany.g) (fun _ z => z)) (a0d (e_isX (e_vv v2Z d2Z 0 rfl rfl rfl) T.ie_NotLinked (gl g2Z 0 rfl) T.n_isinstance a0e (c_own (gl g2Z 11 rfl) T.e_NotLinked.g) (fun _ z => z)) a_nil)))))) a0f (fun v_kinds_33 => (s_one (s_ret (e_op a0q l_add (e_vv v2Z d2Z 1 rfl rfl rfl) (e_pub (e_lst (a0d (e_isX (e_vv v2Z d2Z 0 rfl rfl rfl) T.ie_TooWide (gl g2Z 0 rfl) T.n_isinstance a0e (c_own (gl g2Z 12 rfl) T.e_TooWide.g) (fun _ z => z)) (a0d (e_isX (e_vv v2Z d2Z 0 rfl rfl rfl) T.ie_TooDry (gl g2Z 0 rfl) T.n_isinstance a0e (c_own (gl g2Z 13 rfl) T.e_TooDry.g) (fun _ z => z)) (a0d (e_isX (e_vv v2Z d2Z 0 rfl rfl rfl) T.ie_Torn (gl g2Z 0 rfl) T.n_isinstance a0e (c_own (gl g2Z 14 rfl) T.e_Torn.g) (fun _ z => z)) a_nil)))))) a0f)))))))), rfl⟩
theorem q3Z : FnScope ["e", "k", "j"] ["e", "k"] (defScope s3Z) := ⟨rfl, rfl, rfl, by decide +kernel, rfl, by decide +kernel, by decide +kernel⟩
theorem v3Z : ((["e", "k"] : List Str).all (locB (defScope s3Z))) = true := by decide +kernel
theorem d3Z : ((["e", "k"] : List Str).all dbgB) = true := by decide +kernel
theorem g3Z : ((["isinstance", "CanalError", "ValueError", "_law_kinds", "range"] : List Str).all (glB (defScope s3Z))) = true := by decide +kernel
theorem o3Z (D0 : FunD K "_law_right" "_law_right" (defArgs s3Z) (defBody s3Z) (defScope s3Z) [] [] f fd) (T : Tx w K mg ca) (c__law_kinds : Cal L2.CX P w K mg base "_law_kinds" 1 (spD K ca (F1 m__law_kinds)) []) :
    FnOk P w K mg base (L2.CX P w) 2 f fd ["e", "k"] (spD K ca (F2 m__law_right)) := by
  refine def_D D0 q3Z (fun ds h => ?_) (fun cdv A outer s H E ds hr nb => ?_)
  · obtain ⟨v_e, v_k, rfl⟩ := a18 h
    rfl
  · obtain ⟨v_e, v_k, rfl⟩ := a18 nb
    have tk : Takes (cxOf (L2.CX P w) P w K mg base ["e", "k", "j"] "_law_right" (defScope s3Z) f cdv A outer s H E) (WD E) := takes_of rfl rfl rfl rfl
    exact ⟨Unit, fun _ => [], _, a06 (ρ' := [some (.d v_e), some (.d v_k), none]) (le_refl _) (s_ifx (nE := fun e : Empty => e.elim) (PW.pt (w_or (t_not (a1f (e_isX (e_vv v3Z d3Z 0 rfl rfl rfl) T.ie_CanalError (gl g3Z 0 rfl) T.n_isinstance a0e (c_own (gl g3Z 1 rfl) T.e_CanalError.g) (fun _ z => z)))) (w_or1 (t_not (a1f (e_isX (e_vv v3Z d3Z 0 rfl rfl rfl) T.ie_ValueError (gl g3Z 0 rfl) T.n_isinstance a0e (c_ty (gl g3Z 2 rfl) T.n_ValueError a1r) (fun _ z => z))))))) a0f (s_one (s_ret e_bl a0f)) (s_one (s_ret (e_cmp (a3j hr.units) l_eq (a1p c__law_kinds (hr.mono (by decide)) (gl g3Z 3 rfl) (passAt tk) (a0d (e_vv v3Z d3Z 0 rfl rfl rfl) a_nil)) (e_pub (e_lcN (own := [((Str.ofString "j"), 2)]) (i := 2) rfl q3Z.nd (a16 (gl g3Z 4 rfl) T.n_range (a0d e_int a_nil)) rfl (blkOk_by (by show blkC ["e", "k", "j"] (defScope s3Z) _ _ = true; decide +kernel)) (le_refl _) rfl (by decide) (fun _ _ _ _ _ => pg_name (i := 2) q3Z.nd rfl (by first | exact Or.inl rfl | exact Or.inr rfl)) (fun v_j_14 _ _ _ _ _ => a48) (fun v_j_14 _ _ _ _ _ => (e_cmp (a3j hr.units) l_eq (e_var (i := 2) rfl (by first | exact Or.inl rfl | exact Or.inr (Or.inl rfl) | exact Or.inr (Or.inr rfl)) rfl (by decide) (by decide)) (e_var (i := 1) rfl (by first | exact Or.inl rfl | exact Or.inr (Or.inl rfl) | exact Or.inr (Or.inr rfl)) rfl (by decide) (by decide)) (nomark _))))) (nomark _)) a0f))), rfl⟩
theorem q4Z : FnScope ["much", "found", "e"] ["much"] (defScope s4Z) := ⟨rfl, rfl, rfl, by decide +kernel, rfl, by decide +kernel, by decide +kernel⟩
theorem v4Z : ((["much", "found", "e"] : List Str).all (locB (defScope s4Z))) = true := by decide +kernel
theorem a0l : ((["e", "found"] : List Str).all (llB (defScope s4Z))) = true := by decide +kernel
theorem d4Z : ((["much", "found", "e"] : List Str).all dbgB) = true := by decide +kernel
theorem g4Z : ((["poured", "CanalError"] : List Str).all (glB (defScope s4Z))) = true := by decide +kernel
theorem o4Z (D0 : FunD K "_law_refused" "_law_refused" (defArgs s4Z) (defBody s4Z) (defScope s4Z) [] [] f fd) (T : Tx w K mg ca) (c_poured_1 : Cal L2.CX P w K mg base "poured" 2 (spD K ca (F5 m_poured)) [.int 0]) (c_poured : Cal L2.CX P w K mg base "poured" 2 (spD K ca (F5 m_poured)) []) :
    FnOk P w K mg base (L2.CX P w) 3 f fd ["much"] (spD K ca (F1 m__law_refused)) := by
  refine def_D D0 q4Z (fun ds h => ?_) (fun cdv A outer s H E ds hr nb => ?_)
  · obtain ⟨v_much, rfl⟩ := a08 h
    rfl
  · obtain ⟨v_much, rfl⟩ := a08 nb
    have tk : Takes (cxOf (L2.CX P w) P w K mg base ["much", "found", "e"] "_law_refused" (defScope s4Z) f cdv A outer s H E) (WD E) := takes_of rfl rfl rfl rfl
    exact ⟨Unit, fun _ => [], _, a06 (ρ' := [some (.d v_much), none, none]) (le_refl _) (s_set (i := 1) q4Z.nd rfl (lo v4Z 1 rfl) e_non a0f (fun v_found_1 => (s_seq (emb' := (fun (s : D) => [some (.d v_much), some (.d s), none])) (a2z (i := 2) (im := 1) (sf := (fun j2 => (D.exn j2))) (ρb := ⟨[some (.d v_much), some (.d v_found_1), none], fun _ => [some (.d v_much), some (.d v_found_1), none]⟩) rfl rfl rfl q4Z.nd rfl (lcl a0l 0 rfl) rfl (lcl a0l 1 rfl) (vi v4Z 2 rfl) ⟨(gl g4Z 1 rfl), by decide, Or.inl T.e_CanalError.g⟩ tk T.x_CanalError a0f (fun _ => a0f) (fun _ => rfl) (by decide) (fun j2 => (le_s (le_s (le_n a0f)))) (fun W2 pn2 xe2 tk2 po2 => (a42 (a4a c_poured_1 (fun _ => (.cons (.int _) .nil)) (hr.mono (by decide)) (gl g4Z 0 rfl) (passAt tk2) (a0d (e_tup (a0d (e_vv v4Z d4Z 0 rfl rfl rfl) (a0d e_int a_nil))) (a0d e_int (a0d e_int (a0d (e_op a0q l_add (e_vv v4Z d4Z 0 rfl rfl rfl) e_int) a_nil))))) (le_s (le_s (le_n a0f))) (s_nil (s := v_found_1) (le_s (le_s (le_n a0f))))))) (fun s20 => (s_one (s_ret (e_vv v4Z d4Z 1 rfl rfl rfl) a0f)))))), rfl⟩
theorem q5Z : FnScope ["script", "made", "k", "cell"] ["script"] (defScope s5Z) := ⟨rfl, rfl, rfl, by decide +kernel, rfl, by decide +kernel, by decide +kernel⟩
theorem v5Z : ((["script", "made", "k", "cell"] : List Str).all (locB (defScope s5Z))) = true := by decide +kernel
theorem d5Z : ((["script", "made", "k", "cell"] : List Str).all dbgB) = true := by decide +kernel
theorem g5Z : ((["Short", "Against", "NotNow", "Full", "NoBoat", "BadRow", "BadNumber", "Twice", "Unknown", "TooMany", "NotLinked", "TooWide", "TooDry", "Torn", "range", "_law_right", "_law_refused"] : List Str).all (glB (defScope s5Z))) = true := by decide +kernel
theorem o5Z (D0 : FunD K "law" "law" (defArgs s5Z) (defBody s5Z) (defScope s5Z) [] [] f fd) (T : Tx w K mg ca) (c__law_refused : Cal L2.CX P w K mg base "_law_refused" 3 (spD K ca (F1 m__law_refused)) []) (c__law_right : Cal L2.CX P w K mg base "_law_right" 2 (spD K ca (F2 m__law_right)) []) :
    FnOk P w K mg base (L2.CX P w) 4 f fd ["script"] (spD K ca (F1 m_law)) := by
  refine def_D D0 q5Z (fun ds h => ?_) (fun cdv A outer s H E ds hr nb => ?_)
  · obtain ⟨v_script, rfl⟩ := a08 h
    rfl
  · obtain ⟨v_script, rfl⟩ := a08 nb
    have tk : Takes (cxOf (L2.CX P w) P w K mg base ["script", "made", "k", "cell"] "law" (defScope s5Z) f cdv A outer s H E) (WD E) := takes_of rfl rfl rfl rfl
    have po := passes_of (X := (cxOf (L2.CX P w) P w K mg base ["script", "made", "k", "cell"] "law" (defScope s5Z) f cdv A outer s H E)) rfl
    exact ⟨Unit, fun _ => [], _, a06 (ρ' := [some (.d v_script), none, none, none]) (le_refl _) (s_set (i := 1) q5Z.nd rfl (lo v5Z 1 rfl) (e_pub (e_lst (a0d (e_exn T.e_Short (gl g5Z 0 rfl) e_str) (a0d (e_exn T.e_Against (gl g5Z 1 rfl) e_str) (a0d (e_exn T.e_NotNow (gl g5Z 2 rfl) e_str) (a0d (e_exn T.e_Full (gl g5Z 3 rfl) e_str) (a0d (e_exn T.e_NoBoat (gl g5Z 4 rfl) e_str) (a0d (e_exn T.e_BadRow (gl g5Z 5 rfl) e_str) (a0d (e_exn T.e_BadNumber (gl g5Z 6 rfl) e_str) a_nil))))))))) a0f (fun v_made_1 => (s_set (i := 1) q5Z.nd rfl (lo v5Z 1 rfl) (e_op a0q l_add (e_vv v5Z d5Z 1 rfl rfl rfl) (e_pub (e_lst (a0d (e_exn T.e_Twice (gl g5Z 7 rfl) e_str) (a0d (e_exn T.e_Unknown (gl g5Z 8 rfl) e_str) (a0d (e_exn T.e_TooMany (gl g5Z 9 rfl) e_str) (a0d (e_exn T.e_NotLinked (gl g5Z 10 rfl) e_str) (a0d (e_exn T.e_TooWide (gl g5Z 11 rfl) e_str) (a0d (e_exn T.e_TooDry (gl g5Z 12 rfl) e_str) (a0d (e_exn T.e_Torn (gl g5Z 13 rfl) e_str) a_nil)))))))))) a0f (fun v_made_18 => (s_seq (emb' := (fun (s : Unit) => [some (.d v_script), some (.d v_made_18), none, none])) (a3n (emb := (fun (s : Unit) => [some (.d v_script), some (.d v_made_18), none, none])) (s0 := ()) (i := 2) po rfl (a16 (gl g5Z 14 rfl) T.n_range (a0d e_int a_nil)) q5Z.nd rfl (lo v5Z 2 rfl) a0f (le_s (le_s (le_n (le_n a0f)))) (fun s40 v_k_42 => (s_ifx (nE := fun e : Empty => e.elim) (t_not (a1f (a1p c__law_right (hr.mono (by decide)) (gl g5Z 15 rfl) (passAt tk) (a0d (a3k (e_vv v5Z d5Z 1 rfl rfl rfl) (e_vv v5Z d5Z 2 rfl rfl rfl)) (a0d (e_vv v5Z d5Z 2 rfl rfl rfl) a_nil))))) a0f (s_one (s_ret e_bl a0f)) (s_nil (s := ()) (le_s (le_s (le_n (le_n a0f)))))))) (fun s53 => (s_seq (emb' := (fun (s : Unit) => [some (.d v_script), some (.d v_made_18), none, none])) (a3n (emb := (fun (s : Unit) => [some (.d v_script), some (.d v_made_18), none, none])) (s0 := ()) (i := 3) po rfl (i_seq (e_op a0q l_add (e_vv v5Z d5Z 0 rfl rfl rfl) (e_pub (e_lst (a0d e_int a_nil))))) q5Z.nd rfl (lo v5Z 3 rfl) a0f (le_s (le_s (le_n (le_n a0f)))) (fun s61 v_cell_63 => (s_ifx (nE := fun e : Empty => e.elim) (t_not (a1f (a1p c__law_right (hr.mono (by decide)) (gl g5Z 15 rfl) (passAt tk) (a0d (a1p c__law_refused (hr.mono (by decide)) (gl g5Z 16 rfl) (passAt tk) (a0d (e_op op_mod l_mod (e_vv v5Z d5Z 3 rfl rfl rfl) (e_op op_pow l_pow e_int e_int)) a_nil)) (a0d e_int a_nil))))) a0f (s_one (s_ret e_bl a0f)) (s_nil (s := ()) (le_s (le_s (le_n (le_n a0f)))))))) (fun s79 => (s_one (s_ret e_bl a0f)))))))))), rfl⟩
end
def clsOf (K : PySem.W.Frag) : Nat → Addr := fun j => match j with
  | 0 => He.ga K "CanalError"
  | 1 => He.ga K "Short"
  | 2 => He.ga K "Against"
  | 3 => He.ga K "NotNow"
  | 4 => He.ga K "Full"
  | 5 => He.ga K "NoBoat"
  | 6 => He.ga K "BadRow"
  | 7 => He.ga K "BadNumber"
  | 8 => He.ga K "Twice"
  | 9 => He.ga K "Unknown"
  | 10 => He.ga K "TooMany"
  | 11 => He.ga K "NotLinked"
  | 12 => He.ga K "TooWide"
  | 13 => He.ga K "TooDry"
  | 14 => He.ga K "Torn"
  | _ => 0
def caOf (w : World) (K : PySem.W.Frag) : CA := ⟨clsOf K, w, [], fun j => match j with | _ => none⟩
theorem facts {P : Program} {w : World} {K : PySem.W.Frag} {h : Heap} {mg : Str → Option Value} {f : Addr} (X : K.In h) (G : h.Ns mainGlobals mg) (hfa : mg ("law" : Str) = some (.ref f)) (c0 : SaysX fa fn ex K) :
    ∃ fd : FuncData, (∀ (s : Shared) (v : Value), BindsTo s fd ⟨[v], []⟩ [("script", v)]) ∧ ∀ base : Heap, K.In base → base.Ns mainGlobals mg → FnOk P w K mg base (L2.CX P w) 4 f fd ["script"] (spD K (caOf w K) (F1 m_law)) := by
  obtain ⟨c, hex⟩ := c0.said
  obtain ⟨fd_poured_all, D_poured_all⟩ := c.def_ 0 (d := a0x) rfl
  obtain ⟨fd_poured, D_poured⟩ := c.def_ 1 (d := a2c) rfl
  obtain ⟨fd__law_kinds, D__law_kinds⟩ := c.def_ 2 (d := a0y) rfl
  obtain ⟨fd__law_right, D__law_right⟩ := c.def_ 3 (d := a0z) rfl
  obtain ⟨fd__law_refused, D__law_refused⟩ := c.def_ 4 (d := a0n) rfl
  obtain ⟨fd_law, D_law⟩ := c.def_ 5 (d := d_law) rfl
  have T : Tx w K mg (caOf w K) := ⟨He.free_ok X G (c.fact 6 (f := .free "list") rfl), He.free_ok X G (c.fact 7 (f := .free "tuple") rfl), ExcF.of X G (c.fact 8 (f := .glo "Short") rfl) (c.fact 9 (f := .exc "Short") rfl), ExcF.of X G (c.fact 10 (f := .glo "Against") rfl) (c.fact 11 (f := .exc "Against") rfl), ExcF.of X G (c.fact 12 (f := .glo "BadNumber") rfl) (c.fact 13 (f := .exc "BadNumber") rfl), ExcF.of X G (c.fact 14 (f := .glo "BadRow") rfl) (c.fact 15 (f := .exc "BadRow") rfl), ExcF.of X G (c.fact 16 (f := .glo "Full") rfl) (c.fact 17 (f := .exc "Full") rfl), ExcF.of X G (c.fact 18 (f := .glo "NoBoat") rfl) (c.fact 19 (f := .exc "NoBoat") rfl), ExcF.of X G (c.fact 20 (f := .glo "NotLinked") rfl) (c.fact 21 (f := .exc "NotLinked") rfl), ExcF.of X G (c.fact 22 (f := .glo "NotNow") rfl) (c.fact 23 (f := .exc "NotNow") rfl), ExcF.of X G (c.fact 24 (f := .glo "TooDry") rfl) (c.fact 25 (f := .exc "TooDry") rfl), ExcF.of X G (c.fact 26 (f := .glo "TooMany") rfl) (c.fact 27 (f := .exc "TooMany") rfl), ExcF.of X G (c.fact 28 (f := .glo "TooWide") rfl) (c.fact 29 (f := .exc "TooWide") rfl), ExcF.of X G (c.fact 30 (f := .glo "Torn") rfl) (c.fact 31 (f := .exc "Torn") rfl), ExcF.of X G (c.fact 32 (f := .glo "Twice") rfl) (c.fact 33 (f := .exc "Twice") rfl), ExcF.of X G (c.fact 34 (f := .glo "Unknown") rfl) (c.fact 35 (f := .exc "Unknown") rfl), He.free_ok X G (c.fact 36 (f := .free "isinstance") rfl), (a0g (P := fun j b => ExcC K (caOf w K j) ∧ PySem.W.kitOne K (.ref (caOf w K j)) (.ref (He.ga K "Against")) = some b) (a0a ⟨a0b (exI hex 28 rfl), a0c (exI hex 29 rfl)⟩ (a0a ⟨a0b (exI hex 26 rfl), a0c (exI hex 27 rfl)⟩ (a0a ⟨a0b (exI hex 24 rfl), a0c (exI hex 25 rfl)⟩ (a0a ⟨a0b (exI hex 22 rfl), a0c (exI hex 23 rfl)⟩ (a0a ⟨a0b (exI hex 20 rfl), a0c (exI hex 21 rfl)⟩ (a0a ⟨a0b (exI hex 18 rfl), a0c (exI hex 19 rfl)⟩ (a0a ⟨a0b (exI hex 16 rfl), a0c (exI hex 17 rfl)⟩ (a0a ⟨a0b (exI hex 14 rfl), a0c (exI hex 15 rfl)⟩ (a0a ⟨a0b (exI hex 12 rfl), a0c (exI hex 13 rfl)⟩ (a0a ⟨a0b (exI hex 10 rfl), a0c (exI hex 11 rfl)⟩ (a0a ⟨a0b (exI hex 8 rfl), a0c (exI hex 9 rfl)⟩ (a0a ⟨a0b (exI hex 6 rfl), a0c (exI hex 7 rfl)⟩ (a0a ⟨a0b (exI hex 4 rfl), a0c (exI hex 5 rfl)⟩ (a0a ⟨a0b (exI hex 2 rfl), a0c (exI hex 3 rfl)⟩ (a0a ⟨a0b (exI hex 0 rfl), a0c (exI hex 1 rfl)⟩ a0h)))))))))))))))), (a0g (P := fun j b => ExcC K (caOf w K j) ∧ PySem.W.kitOne K (.ref (caOf w K j)) (.ref (He.ga K "BadNumber")) = some b) (a0a ⟨a0b (exI hex 28 rfl), a0c (exI hex 44 rfl)⟩ (a0a ⟨a0b (exI hex 26 rfl), a0c (exI hex 43 rfl)⟩ (a0a ⟨a0b (exI hex 24 rfl), a0c (exI hex 42 rfl)⟩ (a0a ⟨a0b (exI hex 22 rfl), a0c (exI hex 41 rfl)⟩ (a0a ⟨a0b (exI hex 20 rfl), a0c (exI hex 40 rfl)⟩ (a0a ⟨a0b (exI hex 18 rfl), a0c (exI hex 39 rfl)⟩ (a0a ⟨a0b (exI hex 16 rfl), a0c (exI hex 38 rfl)⟩ (a0a ⟨a0b (exI hex 14 rfl), a0c (exI hex 37 rfl)⟩ (a0a ⟨a0b (exI hex 12 rfl), a0c (exI hex 36 rfl)⟩ (a0a ⟨a0b (exI hex 10 rfl), a0c (exI hex 35 rfl)⟩ (a0a ⟨a0b (exI hex 8 rfl), a0c (exI hex 34 rfl)⟩ (a0a ⟨a0b (exI hex 6 rfl), a0c (exI hex 33 rfl)⟩ (a0a ⟨a0b (exI hex 4 rfl), a0c (exI hex 32 rfl)⟩ (a0a ⟨a0b (exI hex 2 rfl), a0c (exI hex 31 rfl)⟩ (a0a ⟨a0b (exI hex 0 rfl), a0c (exI hex 30 rfl)⟩ a0h)))))))))))))))), (a0g (P := fun j b => ExcC K (caOf w K j) ∧ PySem.W.kitOne K (.ref (caOf w K j)) (.ref (He.ga K "BadRow")) = some b) (a0a ⟨a0b (exI hex 28 rfl), a0c (exI hex 59 rfl)⟩ (a0a ⟨a0b (exI hex 26 rfl), a0c (exI hex 58 rfl)⟩ (a0a ⟨a0b (exI hex 24 rfl), a0c (exI hex 57 rfl)⟩ (a0a ⟨a0b (exI hex 22 rfl), a0c (exI hex 56 rfl)⟩ (a0a ⟨a0b (exI hex 20 rfl), a0c (exI hex 55 rfl)⟩ (a0a ⟨a0b (exI hex 18 rfl), a0c (exI hex 54 rfl)⟩ (a0a ⟨a0b (exI hex 16 rfl), a0c (exI hex 53 rfl)⟩ (a0a ⟨a0b (exI hex 14 rfl), a0c (exI hex 52 rfl)⟩ (a0a ⟨a0b (exI hex 12 rfl), a0c (exI hex 51 rfl)⟩ (a0a ⟨a0b (exI hex 10 rfl), a0c (exI hex 50 rfl)⟩ (a0a ⟨a0b (exI hex 8 rfl), a0c (exI hex 49 rfl)⟩ (a0a ⟨a0b (exI hex 6 rfl), a0c (exI hex 48 rfl)⟩ (a0a ⟨a0b (exI hex 4 rfl), a0c (exI hex 47 rfl)⟩ (a0a ⟨a0b (exI hex 2 rfl), a0c (exI hex 46 rfl)⟩ (a0a ⟨a0b (exI hex 0 rfl), a0c (exI hex 45 rfl)⟩ a0h)))))))))))))))), (a0g (P := fun j b => ExcC K (caOf w K j) ∧ PySem.W.kitOne K (.ref (caOf w K j)) (.ref (He.ga K "Full")) = some b) (a0a ⟨a0b (exI hex 28 rfl), a0c (exI hex 74 rfl)⟩ (a0a ⟨a0b (exI hex 26 rfl), a0c (exI hex 73 rfl)⟩ (a0a ⟨a0b (exI hex 24 rfl), a0c (exI hex 72 rfl)⟩ (a0a ⟨a0b (exI hex 22 rfl), a0c (exI hex 71 rfl)⟩ (a0a ⟨a0b (exI hex 20 rfl), a0c (exI hex 70 rfl)⟩ (a0a ⟨a0b (exI hex 18 rfl), a0c (exI hex 69 rfl)⟩ (a0a ⟨a0b (exI hex 16 rfl), a0c (exI hex 68 rfl)⟩ (a0a ⟨a0b (exI hex 14 rfl), a0c (exI hex 67 rfl)⟩ (a0a ⟨a0b (exI hex 12 rfl), a0c (exI hex 66 rfl)⟩ (a0a ⟨a0b (exI hex 10 rfl), a0c (exI hex 65 rfl)⟩ (a0a ⟨a0b (exI hex 8 rfl), a0c (exI hex 64 rfl)⟩ (a0a ⟨a0b (exI hex 6 rfl), a0c (exI hex 63 rfl)⟩ (a0a ⟨a0b (exI hex 4 rfl), a0c (exI hex 62 rfl)⟩ (a0a ⟨a0b (exI hex 2 rfl), a0c (exI hex 61 rfl)⟩ (a0a ⟨a0b (exI hex 0 rfl), a0c (exI hex 60 rfl)⟩ a0h)))))))))))))))), (a0g (P := fun j b => ExcC K (caOf w K j) ∧ PySem.W.kitOne K (.ref (caOf w K j)) (.ref (He.ga K "NoBoat")) = some b) (a0a ⟨a0b (exI hex 28 rfl), a0c (exI hex 89 rfl)⟩ (a0a ⟨a0b (exI hex 26 rfl), a0c (exI hex 88 rfl)⟩ (a0a ⟨a0b (exI hex 24 rfl), a0c (exI hex 87 rfl)⟩ (a0a ⟨a0b (exI hex 22 rfl), a0c (exI hex 86 rfl)⟩ (a0a ⟨a0b (exI hex 20 rfl), a0c (exI hex 85 rfl)⟩ (a0a ⟨a0b (exI hex 18 rfl), a0c (exI hex 84 rfl)⟩ (a0a ⟨a0b (exI hex 16 rfl), a0c (exI hex 83 rfl)⟩ (a0a ⟨a0b (exI hex 14 rfl), a0c (exI hex 82 rfl)⟩ (a0a ⟨a0b (exI hex 12 rfl), a0c (exI hex 81 rfl)⟩ (a0a ⟨a0b (exI hex 10 rfl), a0c (exI hex 80 rfl)⟩ (a0a ⟨a0b (exI hex 8 rfl), a0c (exI hex 79 rfl)⟩ (a0a ⟨a0b (exI hex 6 rfl), a0c (exI hex 78 rfl)⟩ (a0a ⟨a0b (exI hex 4 rfl), a0c (exI hex 77 rfl)⟩ (a0a ⟨a0b (exI hex 2 rfl), a0c (exI hex 76 rfl)⟩ (a0a ⟨a0b (exI hex 0 rfl), a0c (exI hex 75 rfl)⟩ a0h)))))))))))))))), (a0g (P := fun j b => ExcC K (caOf w K j) ∧ PySem.W.kitOne K (.ref (caOf w K j)) (.ref (He.ga K "NotLinked")) = some b) (a0a ⟨a0b (exI hex 28 rfl), a0c (exI hex 104 rfl)⟩ (a0a ⟨a0b (exI hex 26 rfl), a0c (exI hex 103 rfl)⟩ (a0a ⟨a0b (exI hex 24 rfl), a0c (exI hex 102 rfl)⟩ (a0a ⟨a0b (exI hex 22 rfl), a0c (exI hex 101 rfl)⟩ (a0a ⟨a0b (exI hex 20 rfl), a0c (exI hex 100 rfl)⟩ (a0a ⟨a0b (exI hex 18 rfl), a0c (exI hex 99 rfl)⟩ (a0a ⟨a0b (exI hex 16 rfl), a0c (exI hex 98 rfl)⟩ (a0a ⟨a0b (exI hex 14 rfl), a0c (exI hex 97 rfl)⟩ (a0a ⟨a0b (exI hex 12 rfl), a0c (exI hex 96 rfl)⟩ (a0a ⟨a0b (exI hex 10 rfl), a0c (exI hex 95 rfl)⟩ (a0a ⟨a0b (exI hex 8 rfl), a0c (exI hex 94 rfl)⟩ (a0a ⟨a0b (exI hex 6 rfl), a0c (exI hex 93 rfl)⟩ (a0a ⟨a0b (exI hex 4 rfl), a0c (exI hex 92 rfl)⟩ (a0a ⟨a0b (exI hex 2 rfl), a0c (exI hex 91 rfl)⟩ (a0a ⟨a0b (exI hex 0 rfl), a0c (exI hex 90 rfl)⟩ a0h)))))))))))))))), (a0g (P := fun j b => ExcC K (caOf w K j) ∧ PySem.W.kitOne K (.ref (caOf w K j)) (.ref (He.ga K "NotNow")) = some b) (a0a ⟨a0b (exI hex 28 rfl), a0c (exI hex 119 rfl)⟩ (a0a ⟨a0b (exI hex 26 rfl), a0c (exI hex 118 rfl)⟩ (a0a ⟨a0b (exI hex 24 rfl), a0c (exI hex 117 rfl)⟩ (a0a ⟨a0b (exI hex 22 rfl), a0c (exI hex 116 rfl)⟩ (a0a ⟨a0b (exI hex 20 rfl), a0c (exI hex 115 rfl)⟩ (a0a ⟨a0b (exI hex 18 rfl), a0c (exI hex 114 rfl)⟩ (a0a ⟨a0b (exI hex 16 rfl), a0c (exI hex 113 rfl)⟩ (a0a ⟨a0b (exI hex 14 rfl), a0c (exI hex 112 rfl)⟩ (a0a ⟨a0b (exI hex 12 rfl), a0c (exI hex 111 rfl)⟩ (a0a ⟨a0b (exI hex 10 rfl), a0c (exI hex 110 rfl)⟩ (a0a ⟨a0b (exI hex 8 rfl), a0c (exI hex 109 rfl)⟩ (a0a ⟨a0b (exI hex 6 rfl), a0c (exI hex 108 rfl)⟩ (a0a ⟨a0b (exI hex 4 rfl), a0c (exI hex 107 rfl)⟩ (a0a ⟨a0b (exI hex 2 rfl), a0c (exI hex 106 rfl)⟩ (a0a ⟨a0b (exI hex 0 rfl), a0c (exI hex 105 rfl)⟩ a0h)))))))))))))))), (a0g (P := fun j b => ExcC K (caOf w K j) ∧ PySem.W.kitOne K (.ref (caOf w K j)) (.ref (He.ga K "Short")) = some b) (a0a ⟨a0b (exI hex 28 rfl), a0c (exI hex 134 rfl)⟩ (a0a ⟨a0b (exI hex 26 rfl), a0c (exI hex 133 rfl)⟩ (a0a ⟨a0b (exI hex 24 rfl), a0c (exI hex 132 rfl)⟩ (a0a ⟨a0b (exI hex 22 rfl), a0c (exI hex 131 rfl)⟩ (a0a ⟨a0b (exI hex 20 rfl), a0c (exI hex 130 rfl)⟩ (a0a ⟨a0b (exI hex 18 rfl), a0c (exI hex 129 rfl)⟩ (a0a ⟨a0b (exI hex 16 rfl), a0c (exI hex 128 rfl)⟩ (a0a ⟨a0b (exI hex 14 rfl), a0c (exI hex 127 rfl)⟩ (a0a ⟨a0b (exI hex 12 rfl), a0c (exI hex 126 rfl)⟩ (a0a ⟨a0b (exI hex 10 rfl), a0c (exI hex 125 rfl)⟩ (a0a ⟨a0b (exI hex 8 rfl), a0c (exI hex 124 rfl)⟩ (a0a ⟨a0b (exI hex 6 rfl), a0c (exI hex 123 rfl)⟩ (a0a ⟨a0b (exI hex 4 rfl), a0c (exI hex 122 rfl)⟩ (a0a ⟨a0b (exI hex 2 rfl), a0c (exI hex 121 rfl)⟩ (a0a ⟨a0b (exI hex 0 rfl), a0c (exI hex 120 rfl)⟩ a0h)))))))))))))))), (a0g (P := fun j b => ExcC K (caOf w K j) ∧ PySem.W.kitOne K (.ref (caOf w K j)) (.ref (He.ga K "TooDry")) = some b) (a0a ⟨a0b (exI hex 28 rfl), a0c (exI hex 149 rfl)⟩ (a0a ⟨a0b (exI hex 26 rfl), a0c (exI hex 148 rfl)⟩ (a0a ⟨a0b (exI hex 24 rfl), a0c (exI hex 147 rfl)⟩ (a0a ⟨a0b (exI hex 22 rfl), a0c (exI hex 146 rfl)⟩ (a0a ⟨a0b (exI hex 20 rfl), a0c (exI hex 145 rfl)⟩ (a0a ⟨a0b (exI hex 18 rfl), a0c (exI hex 144 rfl)⟩ (a0a ⟨a0b (exI hex 16 rfl), a0c (exI hex 143 rfl)⟩ (a0a ⟨a0b (exI hex 14 rfl), a0c (exI hex 142 rfl)⟩ (a0a ⟨a0b (exI hex 12 rfl), a0c (exI hex 141 rfl)⟩ (a0a ⟨a0b (exI hex 10 rfl), a0c (exI hex 140 rfl)⟩ (a0a ⟨a0b (exI hex 8 rfl), a0c (exI hex 139 rfl)⟩ (a0a ⟨a0b (exI hex 6 rfl), a0c (exI hex 138 rfl)⟩ (a0a ⟨a0b (exI hex 4 rfl), a0c (exI hex 137 rfl)⟩ (a0a ⟨a0b (exI hex 2 rfl), a0c (exI hex 136 rfl)⟩ (a0a ⟨a0b (exI hex 0 rfl), a0c (exI hex 135 rfl)⟩ a0h)))))))))))))))), (a0g (P := fun j b => ExcC K (caOf w K j) ∧ PySem.W.kitOne K (.ref (caOf w K j)) (.ref (He.ga K "TooMany")) = some b) (a0a ⟨a0b (exI hex 28 rfl), a0c (exI hex 164 rfl)⟩ (a0a ⟨a0b (exI hex 26 rfl), a0c (exI hex 163 rfl)⟩ (a0a ⟨a0b (exI hex 24 rfl), a0c (exI hex 162 rfl)⟩ (a0a ⟨a0b (exI hex 22 rfl), a0c (exI hex 161 rfl)⟩ (a0a ⟨a0b (exI hex 20 rfl), a0c (exI hex 160 rfl)⟩ (a0a ⟨a0b (exI hex 18 rfl), a0c (exI hex 159 rfl)⟩ (a0a ⟨a0b (exI hex 16 rfl), a0c (exI hex 158 rfl)⟩ (a0a ⟨a0b (exI hex 14 rfl), a0c (exI hex 157 rfl)⟩ (a0a ⟨a0b (exI hex 12 rfl), a0c (exI hex 156 rfl)⟩ (a0a ⟨a0b (exI hex 10 rfl), a0c (exI hex 155 rfl)⟩ (a0a ⟨a0b (exI hex 8 rfl), a0c (exI hex 154 rfl)⟩ (a0a ⟨a0b (exI hex 6 rfl), a0c (exI hex 153 rfl)⟩ (a0a ⟨a0b (exI hex 4 rfl), a0c (exI hex 152 rfl)⟩ (a0a ⟨a0b (exI hex 2 rfl), a0c (exI hex 151 rfl)⟩ (a0a ⟨a0b (exI hex 0 rfl), a0c (exI hex 150 rfl)⟩ a0h)))))))))))))))), (a0g (P := fun j b => ExcC K (caOf w K j) ∧ PySem.W.kitOne K (.ref (caOf w K j)) (.ref (He.ga K "TooWide")) = some b) (a0a ⟨a0b (exI hex 28 rfl), a0c (exI hex 179 rfl)⟩ (a0a ⟨a0b (exI hex 26 rfl), a0c (exI hex 178 rfl)⟩ (a0a ⟨a0b (exI hex 24 rfl), a0c (exI hex 177 rfl)⟩ (a0a ⟨a0b (exI hex 22 rfl), a0c (exI hex 176 rfl)⟩ (a0a ⟨a0b (exI hex 20 rfl), a0c (exI hex 175 rfl)⟩ (a0a ⟨a0b (exI hex 18 rfl), a0c (exI hex 174 rfl)⟩ (a0a ⟨a0b (exI hex 16 rfl), a0c (exI hex 173 rfl)⟩ (a0a ⟨a0b (exI hex 14 rfl), a0c (exI hex 172 rfl)⟩ (a0a ⟨a0b (exI hex 12 rfl), a0c (exI hex 171 rfl)⟩ (a0a ⟨a0b (exI hex 10 rfl), a0c (exI hex 170 rfl)⟩ (a0a ⟨a0b (exI hex 8 rfl), a0c (exI hex 169 rfl)⟩ (a0a ⟨a0b (exI hex 6 rfl), a0c (exI hex 168 rfl)⟩ (a0a ⟨a0b (exI hex 4 rfl), a0c (exI hex 167 rfl)⟩ (a0a ⟨a0b (exI hex 2 rfl), a0c (exI hex 166 rfl)⟩ (a0a ⟨a0b (exI hex 0 rfl), a0c (exI hex 165 rfl)⟩ a0h)))))))))))))))), (a0g (P := fun j b => ExcC K (caOf w K j) ∧ PySem.W.kitOne K (.ref (caOf w K j)) (.ref (He.ga K "Torn")) = some b) (a0a ⟨a0b (exI hex 28 rfl), a0c (exI hex 194 rfl)⟩ (a0a ⟨a0b (exI hex 26 rfl), a0c (exI hex 193 rfl)⟩ (a0a ⟨a0b (exI hex 24 rfl), a0c (exI hex 192 rfl)⟩ (a0a ⟨a0b (exI hex 22 rfl), a0c (exI hex 191 rfl)⟩ (a0a ⟨a0b (exI hex 20 rfl), a0c (exI hex 190 rfl)⟩ (a0a ⟨a0b (exI hex 18 rfl), a0c (exI hex 189 rfl)⟩ (a0a ⟨a0b (exI hex 16 rfl), a0c (exI hex 188 rfl)⟩ (a0a ⟨a0b (exI hex 14 rfl), a0c (exI hex 187 rfl)⟩ (a0a ⟨a0b (exI hex 12 rfl), a0c (exI hex 186 rfl)⟩ (a0a ⟨a0b (exI hex 10 rfl), a0c (exI hex 185 rfl)⟩ (a0a ⟨a0b (exI hex 8 rfl), a0c (exI hex 184 rfl)⟩ (a0a ⟨a0b (exI hex 6 rfl), a0c (exI hex 183 rfl)⟩ (a0a ⟨a0b (exI hex 4 rfl), a0c (exI hex 182 rfl)⟩ (a0a ⟨a0b (exI hex 2 rfl), a0c (exI hex 181 rfl)⟩ (a0a ⟨a0b (exI hex 0 rfl), a0c (exI hex 180 rfl)⟩ a0h)))))))))))))))), (a0g (P := fun j b => ExcC K (caOf w K j) ∧ PySem.W.kitOne K (.ref (caOf w K j)) (.ref (He.ga K "Twice")) = some b) (a0a ⟨a0b (exI hex 28 rfl), a0c (exI hex 209 rfl)⟩ (a0a ⟨a0b (exI hex 26 rfl), a0c (exI hex 208 rfl)⟩ (a0a ⟨a0b (exI hex 24 rfl), a0c (exI hex 207 rfl)⟩ (a0a ⟨a0b (exI hex 22 rfl), a0c (exI hex 206 rfl)⟩ (a0a ⟨a0b (exI hex 20 rfl), a0c (exI hex 205 rfl)⟩ (a0a ⟨a0b (exI hex 18 rfl), a0c (exI hex 204 rfl)⟩ (a0a ⟨a0b (exI hex 16 rfl), a0c (exI hex 203 rfl)⟩ (a0a ⟨a0b (exI hex 14 rfl), a0c (exI hex 202 rfl)⟩ (a0a ⟨a0b (exI hex 12 rfl), a0c (exI hex 201 rfl)⟩ (a0a ⟨a0b (exI hex 10 rfl), a0c (exI hex 200 rfl)⟩ (a0a ⟨a0b (exI hex 8 rfl), a0c (exI hex 199 rfl)⟩ (a0a ⟨a0b (exI hex 6 rfl), a0c (exI hex 198 rfl)⟩ (a0a ⟨a0b (exI hex 4 rfl), a0c (exI hex 197 rfl)⟩ (a0a ⟨a0b (exI hex 2 rfl), a0c (exI hex 196 rfl)⟩ (a0a ⟨a0b (exI hex 0 rfl), a0c (exI hex 195 rfl)⟩ a0h)))))))))))))))), (a0g (P := fun j b => ExcC K (caOf w K j) ∧ PySem.W.kitOne K (.ref (caOf w K j)) (.ref (He.ga K "Unknown")) = some b) (a0a ⟨a0b (exI hex 28 rfl), a0c (exI hex 224 rfl)⟩ (a0a ⟨a0b (exI hex 26 rfl), a0c (exI hex 223 rfl)⟩ (a0a ⟨a0b (exI hex 24 rfl), a0c (exI hex 222 rfl)⟩ (a0a ⟨a0b (exI hex 22 rfl), a0c (exI hex 221 rfl)⟩ (a0a ⟨a0b (exI hex 20 rfl), a0c (exI hex 220 rfl)⟩ (a0a ⟨a0b (exI hex 18 rfl), a0c (exI hex 219 rfl)⟩ (a0a ⟨a0b (exI hex 16 rfl), a0c (exI hex 218 rfl)⟩ (a0a ⟨a0b (exI hex 14 rfl), a0c (exI hex 217 rfl)⟩ (a0a ⟨a0b (exI hex 12 rfl), a0c (exI hex 216 rfl)⟩ (a0a ⟨a0b (exI hex 10 rfl), a0c (exI hex 215 rfl)⟩ (a0a ⟨a0b (exI hex 8 rfl), a0c (exI hex 214 rfl)⟩ (a0a ⟨a0b (exI hex 6 rfl), a0c (exI hex 213 rfl)⟩ (a0a ⟨a0b (exI hex 4 rfl), a0c (exI hex 212 rfl)⟩ (a0a ⟨a0b (exI hex 2 rfl), a0c (exI hex 211 rfl)⟩ (a0a ⟨a0b (exI hex 0 rfl), a0c (exI hex 210 rfl)⟩ a0h)))))))))))))))), ExcF.of X G (c.fact 37 (f := .glo "CanalError") rfl) (c.fact 38 (f := .exc "CanalError") rfl), He.free_ok X G (c.fact 39 (f := .free "ValueError") rfl), He.free_ok X G (c.fact 40 (f := .free "range") rfl), (a0g (P := fun j b => ExcC K (caOf w K j) ∧ PySem.W.kitOne K (.ref (caOf w K j)) (.ref (He.ga K "CanalError")) = some b) (a0a ⟨a0b (exI hex 28 rfl), a0c (exI hex 239 rfl)⟩ (a0a ⟨a0b (exI hex 26 rfl), a0c (exI hex 238 rfl)⟩ (a0a ⟨a0b (exI hex 24 rfl), a0c (exI hex 237 rfl)⟩ (a0a ⟨a0b (exI hex 22 rfl), a0c (exI hex 236 rfl)⟩ (a0a ⟨a0b (exI hex 20 rfl), a0c (exI hex 235 rfl)⟩ (a0a ⟨a0b (exI hex 18 rfl), a0c (exI hex 234 rfl)⟩ (a0a ⟨a0b (exI hex 16 rfl), a0c (exI hex 233 rfl)⟩ (a0a ⟨a0b (exI hex 14 rfl), a0c (exI hex 232 rfl)⟩ (a0a ⟨a0b (exI hex 12 rfl), a0c (exI hex 231 rfl)⟩ (a0a ⟨a0b (exI hex 10 rfl), a0c (exI hex 230 rfl)⟩ (a0a ⟨a0b (exI hex 8 rfl), a0c (exI hex 229 rfl)⟩ (a0a ⟨a0b (exI hex 6 rfl), a0c (exI hex 228 rfl)⟩ (a0a ⟨a0b (exI hex 4 rfl), a0c (exI hex 227 rfl)⟩ (a0a ⟨a0b (exI hex 2 rfl), a0c (exI hex 226 rfl)⟩ (a0a ⟨a0b (exI hex 0 rfl), a0c (exI hex 225 rfl)⟩ a0h)))))))))))))))), (a0g (P := fun j b => ExcC K (caOf w K j) ∧ PySem.W.kitOne K (.ref (caOf w K j)) (.type "ValueError") = some b) (a0a ⟨a0b (exI hex 28 rfl), a0c (exI hex 254 rfl)⟩ (a0a ⟨a0b (exI hex 26 rfl), a0c (exI hex 253 rfl)⟩ (a0a ⟨a0b (exI hex 24 rfl), a0c (exI hex 252 rfl)⟩ (a0a ⟨a0b (exI hex 22 rfl), a0c (exI hex 251 rfl)⟩ (a0a ⟨a0b (exI hex 20 rfl), a0c (exI hex 250 rfl)⟩ (a0a ⟨a0b (exI hex 18 rfl), a0c (exI hex 249 rfl)⟩ (a0a ⟨a0b (exI hex 16 rfl), a0c (exI hex 248 rfl)⟩ (a0a ⟨a0b (exI hex 14 rfl), a0c (exI hex 247 rfl)⟩ (a0a ⟨a0b (exI hex 12 rfl), a0c (exI hex 246 rfl)⟩ (a0a ⟨a0b (exI hex 10 rfl), a0c (exI hex 245 rfl)⟩ (a0a ⟨a0b (exI hex 8 rfl), a0c (exI hex 244 rfl)⟩ (a0a ⟨a0b (exI hex 6 rfl), a0c (exI hex 243 rfl)⟩ (a0a ⟨a0b (exI hex 4 rfl), a0c (exI hex 242 rfl)⟩ (a0a ⟨a0b (exI hex 2 rfl), a0c (exI hex 241 rfl)⟩ (a0a ⟨a0b (exI hex 0 rfl), a0c (exI hex 240 rfl)⟩ a0h)))))))))))))))), (by intro j b h; rcases j with _ | _ | _ | _ | _ | _ | _ | _ | _ | _ | _ | _ | _ | _ | _ | j; (· cases (show some true = some b from h); exact He.exm_ok (c.fact 41 (f := .exm "CanalError" "CanalError" true) rfl)); (· cases (show some true = some b from h); exact He.exm_ok (c.fact 42 (f := .exm "Short" "CanalError" true) rfl)); (· cases (show some true = some b from h); exact He.exm_ok (c.fact 43 (f := .exm "Against" "CanalError" true) rfl)); (· cases (show some true = some b from h); exact He.exm_ok (c.fact 44 (f := .exm "NotNow" "CanalError" true) rfl)); (· cases (show some true = some b from h); exact He.exm_ok (c.fact 45 (f := .exm "Full" "CanalError" true) rfl)); (· cases (show some true = some b from h); exact He.exm_ok (c.fact 46 (f := .exm "NoBoat" "CanalError" true) rfl)); (· cases (show some true = some b from h); exact He.exm_ok (c.fact 47 (f := .exm "BadRow" "CanalError" true) rfl)); (· cases (show some true = some b from h); exact He.exm_ok (c.fact 48 (f := .exm "BadNumber" "CanalError" true) rfl)); (· cases (show some true = some b from h); exact He.exm_ok (c.fact 49 (f := .exm "Twice" "CanalError" true) rfl)); (· cases (show some true = some b from h); exact He.exm_ok (c.fact 50 (f := .exm "Unknown" "CanalError" true) rfl)); (· cases (show some true = some b from h); exact He.exm_ok (c.fact 51 (f := .exm "TooMany" "CanalError" true) rfl)); (· cases (show some true = some b from h); exact He.exm_ok (c.fact 52 (f := .exm "NotLinked" "CanalError" true) rfl)); (· cases (show some true = some b from h); exact He.exm_ok (c.fact 53 (f := .exm "TooWide" "CanalError" true) rfl)); (· cases (show some true = some b from h); exact He.exm_ok (c.fact 54 (f := .exm "TooDry" "CanalError" true) rfl)); (· cases (show some true = some b from h); exact He.exm_ok (c.fact 55 (f := .exm "Torn" "CanalError" true) rfl)); (· cases (show (none : Option Bool) = some b from h)))⟩
  have e := hfa.symm.trans (He.glo_ok X G (c.fact 5 (f := .glo "law") rfl))
  cases e
  have b := FunD.bindsA (ps := ["script"]) D_law fun _ _ _ _ _ _ us hl => match us, hl with | [_], _ => rfl
  refine ⟨fd_law, fun s v => b s [v] rfl, fun base _ _ => ?_⟩
  have c_poured_all : Cal L2.CX P w K mg base "poured_all" 1 (spD K (caOf w K) (F2 m_poured_all)) [] := ⟨⟨_, _, ["waters", "pours"], [], (o0Z D_poured_all T), (He.glo_ok X G (c.fact 0 (f := .glo "poured_all") rfl)), D_poured_all.kp, FunD.bindsN D_poured_all (fun _ _ _ _ _ _ us hl => match us, hl with | [_, _], _ => rfl), .nil⟩⟩
  obtain ⟨ds_poured_0, hv_poured_0, hb_poured_0⟩ := FunD.binds1 (ps := ["waters", "source", "target", "amount", "keep"]) D_poured 5 1 (by intro z; cases z) rfl (fun T kV doc pm an cdv ct us its hl h2 => match us, its, hl, h2 with | [_, _, _, _, _], [_], _, _ => ⟨_, rfl, rfl⟩)
  have c_poured : Cal L2.CX P w K mg base "poured" 2 (spD K (caOf w K) (F5 m_poured)) [] := ⟨⟨_, _, ["waters", "source", "target", "amount", "keep"], ds_poured_0, (o1Z D_poured T c_poured_all), (He.glo_ok X G (c.fact 1 (f := .glo "poured") rfl)), D_poured.kp, hb_poured_0, hv_poured_0⟩⟩
  obtain ⟨ds_poured_1, hv_poured_1, hb_poured_1⟩ := FunD.binds1 (ps := ["waters", "source", "target", "amount", "keep"]) D_poured 4 0 (by intro z; cases z) rfl (fun T kV doc pm an cdv ct us its hl h2 => match us, its, hl, h2 with | [_, _, _, _], [_], _, _ => ⟨_, rfl, rfl⟩)
  have c_poured_1 : Cal L2.CX P w K mg base "poured" 2 (spD K (caOf w K) (F5 m_poured)) [.int 0] := ⟨⟨_, _, ["waters", "source", "target", "amount", "keep"], ds_poured_1, (o1Z D_poured T c_poured_all), (He.glo_ok X G (c.fact 1 (f := .glo "poured") rfl)), D_poured.kp, hb_poured_1, hv_poured_1⟩⟩
  have c__law_kinds : Cal L2.CX P w K mg base "_law_kinds" 1 (spD K (caOf w K) (F1 m__law_kinds)) [] := ⟨⟨_, _, ["e"], [], (o2Z D__law_kinds T), (He.glo_ok X G (c.fact 2 (f := .glo "_law_kinds") rfl)), D__law_kinds.kp, FunD.bindsN D__law_kinds (fun _ _ _ _ _ _ us hl => match us, hl with | [_], _ => rfl), .nil⟩⟩
  have c__law_right : Cal L2.CX P w K mg base "_law_right" 2 (spD K (caOf w K) (F2 m__law_right)) [] := ⟨⟨_, _, ["e", "k"], [], (o3Z D__law_right T c__law_kinds), (He.glo_ok X G (c.fact 3 (f := .glo "_law_right") rfl)), D__law_right.kp, FunD.bindsN D__law_right (fun _ _ _ _ _ _ us hl => match us, hl with | [_, _], _ => rfl), .nil⟩⟩
  have c__law_refused : Cal L2.CX P w K mg base "_law_refused" 3 (spD K (caOf w K) (F1 m__law_refused)) [] := ⟨⟨_, _, ["much"], [], (o4Z D__law_refused T c_poured_1 c_poured), (He.glo_ok X G (c.fact 4 (f := .glo "_law_refused") rfl)), D__law_refused.kp, FunD.bindsN D__law_refused (fun _ _ _ _ _ _ us hl => match us, hl with | [_], _ => rfl), .nil⟩⟩
  exact o5Z D_law T c__law_refused c__law_right
end Lw
namespace Lk
open PySem PySem.Spec PyProof.Rows L2
theorem a2f {S' B T α : Type} {step : Unit → D → Res (Out Unit Unit T)} {c : α → D} {r : T} (p : α → Bool) : ∀ (xs : List α), (∀ x ∈ xs, step () (c x) = if p x = true then .ok (.nx ()) else .ok (.rt r)) →
    (loopR step (xs.map c) () : Res (Out Unit B T)) = if xs.all p = true then .ok (.nx ()) else .ok (.rt r)
  | [], _ => rfl
  | x :: xs, h => by
    have e := h x List.mem_cons_self
    have ih := a2f (S' := S') (B := B) (step := step) (c := c) (r := r) p xs fun y hy => h y (List.mem_cons_of_mem _ hy)
    by_cases q : p x = true
    · rw [if_pos q] at e
      have ea : (x :: xs).all p = xs.all p := by simp [q]
      rw [ea, ← ih]
      simp only [List.map_cons, loopR, e]
      rfl
    · rw [if_neg q] at e
      have ea : (x :: xs).all p = false := by simp [q]
      rw [ea]
      simp only [List.map_cons, loopR, e]
      rfl
end Lk
namespace Lw
open PySem Lk
theorem a2g (k : Nat) (h : k < 14) : m__law_right (D.exn (k + 1)) (.int k) = .ok (.bl true) := by
  rcases k with _ | _ | _ | _ | _ | _ | _ | _ | _ | _ | _ | _ | _ | _ | k
  all_goals first | rfl | (exfalso; omega)
theorem a23 (n : Int) : m_poured (.tup [.int n, .int 0]) (.int 0) (.int 1) (.int (n + 1)) (.int 0) = .exc 1 := by
  have e1 : D.item (.tup [.int n, .int 0]) (.int 0) = .ok (.int n) := rfl
  have e2 : D.notN (.int 0) .non = .ok (.bl true) := rfl
  have e3 : decide (n - (n + 1) < 0) = true := by
    rw [decide_eq_true_eq]
    omega
  simp -implicitDefEqProofs only [m_poured, a0o, e1, e2, a4u, a3w, if_true, if_pos, a3z, e3]
  rfl
theorem a2n (n : Int) : m__law_refused (.int n) = .ok (D.exn 1) := by
  have e := a23 n
  simp -implicitDefEqProofs only [m__law_refused, a0o, a3v, F5_eq, a4j, List.append_eq, List.nil_append, List.cons_append, e]
  rfl
theorem law_true (ns : List Int) (h : ns.length ≤ 63) : F1 m_law [D.lst (ns.map D.int)] = .ok (.bl true) := by
  have e14 : D.range1 [.int 14] = .ok ((List.range 14).map fun k : Nat => D.int (k : Int)) := a2m (n := 14) (by decide)
  have ea : D.add (.lst (ns.map D.int)) (.lst [.int 0]) = .ok (.lst ((ns ++ [0]).map D.int)) := by
    rw [a20 (by simp; omega), List.map_append]
    rfl
  have eb : D.add (.lst [D.exn ci_Short, D.exn ci_Against, D.exn ci_NotNow, D.exn ci_Full, D.exn ci_NoBoat, D.exn ci_BadRow, D.exn ci_BadNumber]) (.lst [D.exn ci_Twice, D.exn ci_Unknown, D.exn ci_TooMany, D.exn ci_NotLinked, D.exn ci_TooWide, D.exn ci_TooDry, D.exn ci_Torn]) = .ok (.lst ((List.range 14).map fun k => D.exn (k + 1))) := by
    rw [a20 (by decide)]
    rfl
  have ep : D.pow (.int 10) (.int 30) = .ok (.int (10 ^ 30)) := rfl
  rw [F1_eq]
  simp -implicitDefEqProofs only [m_law, a0o, a4k, a4i, eb, e14, ea, a2a]
  refine a04 (fun _ _ => True) trivial (fun j hj s _ => ⟨(), ?_, trivial⟩) (fun s _ => ?_)
  · have ei : D.item (.lst ((List.range 14).map fun k => D.exn (k + 1))) (.int (j : Int)) = .ok (D.exn (j + 1)) := by
      rw [a3f (by simpa using hj)]
      simp
    simp -implicitDefEqProofs only [a0o, ei, F2_eq, a2g j hj, a2b, Bool.not_true, if_neg, Bool.false_eq_true, if_false]
  · simp -implicitDefEqProofs only [Out.then_, a0o, a33, a2a]
    rw [a2f (S' := Unit) (r := D.bl false) (fun _ => true) (ns ++ [0]) fun x _ => ?_]
    · have q : (ns ++ [0]).all (fun _ => true) = true := by simp
      rw [q, if_pos rfl]
      rfl
    · have en : ∀ n : Int, F1 m__law_refused [D.int n] = .ok (D.exn 1) := a2n
      have er : F2 m__law_right [D.exn 1, D.int 0] = .ok (.bl true) := a2g 0 (by decide)
      simp -implicitDefEqProofs only [a0o, ep, a3x (show (0 : Int) < 10 ^ 30 by decide), en, er, a2b, Bool.not_true, Bool.false_eq_true, if_false, if_true]
end Lw
open PySem PySem.W PySem.Calls PyProof.Rows
set_option maxRecDepth 100000 in
set_option maxHeartbeats 0 in
theorem PySem.Challenge.cw_lockhouse_k10_refusals_apart_holds : PySem.Challenge.rw_lockhouse_k10_refusals_apart.Holds := by
  w_on; o_law
  refine HandSHeadRun.head_any (r := Lw.R0) (q := view Lw.R0.prog [23]) (H := Lw.hk) (ob := Lw.ob) (M := 13400) (loose := Lw.names) (d := HandSHeadRun.topDef Lw.R0.prog 23) (kwd := []) Lw.ob_eq
    (by kernel_rfl) (fun s => by kernel_rfl) Lw.run (by kernel_rfl) (by kernel_rfl) (by kernel_rfl) (by rfl) (by first | assumption | decide +kernel) (by decide +kernel) ⟨rfl, rfl, rfl, rfl, rfl, by decide +kernel⟩ ?hw ?hc
  case hw => w_witness2
  case hc =>
    refine Lk.law_end (l := PySem.Challenge.rw_lockhouse_k10_refusals_apart) (n := 63) (k := 4) (F := Lk.F1 Lw.m_law) rfl (by decide) (by kernel_rfl) ⟨rfl, by decide, by decide⟩ Lw.law_true ?u
    intro w mg fa h Y G hn
    obtain ⟨K, KX, c⟩ := Y
    have en : (HandSHeadRun.topDef Lw.R0.prog 23).name = ("law" : PySem.Str) := by kernel_rfl
    rw [en] at hn
    exact ⟨K, Lw.caOf w K, KX, rfl, Lw.facts KX G hn c⟩
