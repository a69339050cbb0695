/-
  Keys that wait: the plain law; own work.
-/
import Derived.Test.YtojkcbhmhfjioaaGs
set_option linter.unusedSimpArgs false
set_option linter.unusedVariables false
namespace Go.Proofs.Ytojkcbhmhfjioaa
open Go.RowKit
/-- a key -/
structure Ky where
  l : List (BitVec 8)
  h : l.length = 32
@[simp] theorem Ky.len (k : Ky) : k.l.length = 32 := k.h
theorem Ky.ext' {a b : Ky} (h : a.l = b.l) : a = b := by cases a; cases b; simp only at h; subst h; rfl
instance : DecidableEq Ky := fun a b => decidable_of_iff (a.l = b.l) ⟨Ky.ext', fun h => by rw [h]⟩
def Ky.zero : Ky := ⟨zs 32, by simp [zs]⟩
instance : Inhabited Ky := ⟨Ky.zero⟩
namespace Sk
/-- a key that waits -/
structure En where
  pub : Ky
  key : Ky
  n : Int
instance : Inhabited En := ⟨⟨Ky.zero, Ky.zero, 0⟩⟩
def hit (p : Ky) (n : Int) (x : En) : Bool := decide (x.n = n) && decide (x.pub = p)
def mk (p : Ky) (f : Int) : List Ky → List En
  | [] => []
  | k :: r => ⟨p, k, f⟩ :: mk p (f + 1) r
theorem mk_len (p : Ky) (f : Int) (ks : List Ky) : (mk p f ks).length = ks.length := by
  induction ks generalizing f with
  | nil => rfl
  | cons k r ih => simp [mk, ih]
theorem mk_append (p : Ky) (f : Int) (ks : List Ky) (k : Ky) : mk p f (ks ++ [k]) = mk p f ks ++ [⟨p, k, f + ks.length⟩] := by
  induction ks generalizing f with
  | nil => simp [mk]
  | cons x r ih => simp [mk, ih]; omega
theorem mk_get {p : Ky} {f : Int} {ks : List Ky} {i : Nat} {k : Ky} (h : ks[i]? = some k) : (mk p f ks)[i]? = some ⟨p, k, f + i⟩ := by
  induction ks generalizing f i with
  | nil => simp at h
  | cons x r ih =>
    cases i with
    | zero => simp at h; subst h; simp [mk]
    | succ i => simp only [List.getElem?_cons_succ] at h; simp only [mk, List.getElem?_cons_succ, ih h]; congr 2; omega
/-- where a key waits, or how many there are -/
def find (L : List En) (p : Ky) (n : Int) : Nat := L.findIdx (hit p n)
/-- what is put, and the answer -/
def put (room : Nat) (L : List En) (p : Ky) (f : Int) (ks : List Ky) : List En × Int :=
  if f < 0 ∨ 65535 < f ∨ 65535 - f < ks.length then (L, 2)
  else if ∃ i, i < ks.length ∧ find L p (f + (i : Nat)) < L.length then (L, 10)
  else if room < L.length + ks.length then (L, 8)
  else (L ++ mk p f ks, 0)
def get (L : List En) (p : Ky) (n : Int) : Ky × Int := match L[find L p n]? with
  | some x => (x.key, 0)
  | none => (Ky.zero, 9)
def drop (L : List En) (p : Ky) (n : Int) : List En × Int := if find L p n < L.length then (L.eraseIdx (find L p n), 0) else (L, 9)
theorem find_le (L : List En) (p : Ky) (n : Int) : find L p n ≤ L.length := List.findIdx_le_length
theorem find_all (L : List En) (p : Ky) (n : Int) : ∀ j, j < find L p n → ∀ x, L[j]? = some x → hit p n x = false := by
  intro j hj x hx
  have h := List.not_of_lt_findIdx (p := hit p n) (xs := L) hj
  obtain ⟨h1, h2⟩ := List.getElem?_eq_some_iff.1 hx
  rw [h2] at h
  simpa using h
theorem find_hit (L : List En) (p : Ky) (n : Int) (h : find L p n < L.length) : ∀ x, L[find L p n]? = some x → hit p n x = true := by
  intro x hx
  have h1 := List.findIdx_getElem (p := hit p n) (xs := L) (w := h)
  obtain ⟨h2, h3⟩ := List.getElem?_eq_some_iff.1 hx
  rw [← h3]; exact h1
end Sk
end Go.Proofs.Ytojkcbhmhfjioaa
