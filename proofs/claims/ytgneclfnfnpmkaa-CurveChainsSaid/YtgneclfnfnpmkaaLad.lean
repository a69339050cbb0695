/-
  The ladder over an Edwards curve; own work.
-/
import Derived.Test.YtgneclfnfnpmkaaEdw
set_option linter.unusedVariables false
set_option maxRecDepth 8000
namespace Go.Proofs.Ytgneclfnfnpmkaa.Fp
section
variable {D : F} (hD : NS D)
def Pt.mul (n : Nat) (p : Pt D) : Pt D := match n with
  | 0 => .O
  | n + 1 => (Pt.mul n p).add hD p
theorem mul_zero' (p : Pt D) : p.mul hD 0 = .O := rfl
theorem mul_succ' (n : Nat) (p : Pt D) : p.mul hD (n + 1) = (p.mul hD n).add hD p := rfl
theorem mul_one' (p : Pt D) : p.mul hD 1 = p := by rw [mul_succ', mul_zero', zero_add]
theorem mul_add' (p : Pt D) (n : Nat) : ∀ m, p.mul hD (n + m) = (p.mul hD n).add hD (p.mul hD m)
  | 0 => by rw [mul_zero', add_zero]; rfl
  | m + 1 => by rw [← Nat.add_assoc, mul_succ', mul_add' p n m, mul_succ', add_assoc]
theorem mul_mul' (p : Pt D) (n : Nat) : ∀ m, p.mul hD (n * m) = (p.mul hD n).mul hD m
  | 0 => rfl
  | m + 1 => by rw [Nat.mul_succ, mul_add', mul_mul' p n m]; rfl
theorem mul_O (n : Nat) : (Pt.O : Pt D).mul hD n = .O := by
  induction n with
  | zero => rfl
  | succ n ih => rw [mul_succ', ih, add_zero]
theorem kill_gcd (p : Pt D) : ∀ a b : Nat, p.mul hD a = .O → p.mul hD b = .O → p.mul hD (Nat.gcd a b) = .O := by
  intro a b
  induction a, b using Nat.gcd.induction with
  | H0 y => intro _ h; simpa using h
  | H1 x y hx ih =>
    intro h1 h2
    rw [Nat.gcd_rec]
    refine ih ?_ h1
    have e : y = x * (y / x) + y % x := (Nat.div_add_mod y x).symm
    rw [e, mul_add', mul_mul', h1, mul_O, zero_add] at h2
    exact h2
end
/-- the Montgomery form that belongs to a curve: s is 1 or -1, A is the form's number -/
structure Mo (D s A : F) : Prop where
  ns : NS D
  ss : s * s = 1
  a2 : s * A + 2 ≠ 0
  d : D * (s * A + 2) = s * A - 2
/-- (X : Z) stands for a point -/
def Rep {D : F} (s X Z : F) (q : Pt D) : Prop := X * (1 - q.y) = s * Z * (1 + q.y) ∧ ¬ (X = 0 ∧ Z = 0)
theorem lx1 {u s y : F} (h : u * (1 - y) = s * (1 + y)) (e : 1 - y = 0) : 2 * s = 0 := by grind
theorem lx2 {u s y : F} (h : u * (1 - y) = s * (1 + y)) (e : 1 + y = 0) : u * 2 = 0 := by grind
theorem le1 {d a b Y : F} (h : (1 - d) * Y = a - b) : (1 - d) * (1 + Y) = 1 - d + a - b := by grind
theorem le2 {d a b Y : F} (h : (1 - d) * Y = a - b) : (1 - d) * (1 - Y) = 1 - d - a + b := by grind
theorem le3 {D x1 x2 y1 y2 yb : F} (h : (1 - D * -x1 * x2 * y1 * y2) * yb = y1 * y2 - -x1 * x2) : (1 + D * x1 * x2 * y1 * y2) * (1 + yb) = 1 + D * x1 * x2 * y1 * y2 + y1 * y2 + x1 * x2 := by grind
theorem le4 {D x1 x2 y1 y2 yb : F} (h : (1 - D * -x1 * x2 * y1 * y2) * yb = y1 * y2 - -x1 * x2) : (1 + D * x1 * x2 * y1 * y2) * (1 - yb) = 1 + D * x1 * x2 * y1 * y2 - y1 * y2 - x1 * x2 := by grind
theorem le5 (a b c d e : F) : a * b * (c * d * e) = (b * c) * (a * d) * e := by grind
theorem le6 {D x1 y1 x2 y2 : F} (oq : x1 * x1 + y1 * y1 = 1 + D * x1 * x1 * y1 * y1) (oR : x2 * x2 + y2 * y2 = 1 + D * x2 * x2 * y2 * y2) :
    (1 - D * x1 * x2 * y1 * y2 + y1 * y2 - x1 * x2) * (1 + D * x1 * x2 * y1 * y2 + y1 * y2 + x1 * x2) * ((y1 - y2) * (y1 - y2)) =
    (1 - D * x1 * x2 * y1 * y2 - y1 * y2 + x1 * x2) * (1 + D * x1 * x2 * y1 * y2 - y1 * y2 - x1 * x2) * ((y1 + y2) * (y1 + y2)) := by grind
theorem lx3 {D x1 y1 x2 y2 Y yb : F} (oq : x1 * x1 + y1 * y1 = 1 + D * x1 * x1 * y1 * y1) (oR : x2 * x2 + y2 * y2 = 1 + D * x2 * x2 * y2 * y2) (b2 : (1 - D * x1 * x2 * y1 * y2) * Y = y1 * y2 - x1 * x2)
    (dy : (1 - D * -x1 * x2 * y1 * y2) * yb = y1 * y2 - -x1 * x2) :
    (1 + D * x1 * x2 * y1 * y2) * (1 - D * x1 * x2 * y1 * y2) * ((1 + Y) * (1 + yb) * ((y1 - y2) * (y1 - y2))) = (1 + D * x1 * x2 * y1 * y2) * (1 - D * x1 * x2 * y1 * y2) * ((1 - Y) * (1 - yb) * ((y1 + y2) * (y1 + y2))) := by
  rw [le5, le5, le1 b2, le2 b2, le3 dy, le4 dy]
  exact le6 oq oR
theorem lf1 {D x y : F} (h : y = 0) (o : x * x + y * y = 1 + D * x * x * y * y) : x * x = 1 := by grind
theorem lf2 {D x1 x2 y1 y2 yb : F} (h : y1 = 0) (dy : (1 - D * -x1 * x2 * y1 * y2) * yb = y1 * y2 - -x1 * x2) : yb = x1 * x2 := by grind
theorem lf3 {x1 x2 : F} : (1 - x1 * x2) * (1 + x1 * x2) = 1 - (x1 * x1) * (x2 * x2) := by grind
theorem lx4 {D x1 x2 y1 y2 yb : F} (h1 : y1 = 0) (h2 : y2 = 0) (oq : x1 * x1 + y1 * y1 = 1 + D * x1 * x1 * y1 * y1) (oR : x2 * x2 + y2 * y2 = 1 + D * x2 * x2 * y2 * y2) (dy : (1 - D * -x1 * x2 * y1 * y2) * yb = y1 * y2 - -x1 * x2) : (1 - yb) * (1 + yb) = 0 := by
  rw [lf2 h1 dy, lf3, lf1 h1 oq, lf1 h2 oR]; decide +kernel
theorem lx5 {s t r y1 y2 : F} (hss : s * s = 1) : s * t * (1 + y1) * (s * r * (1 + y2)) - t * (1 - y1) * (r * (1 - y2)) = 2 * (t * r) * (y1 + y2) := by grind
theorem lx6 {s t r y1 y2 : F} : s * t * (1 + y1) * (r * (1 - y2)) - t * (1 - y1) * (s * r * (1 + y2)) = 2 * s * (t * r) * (y1 - y2) := by grind
theorem lx7 {s u k y1 y2 Y yb : F} (hss : s * s = 1) (hbu : u * (1 - yb) = s * (1 + yb)) (key : (1 + Y) * (1 + yb) * ((y1 - y2) * (y1 - y2)) = (1 - Y) * (1 - yb) * ((y1 + y2) * (y1 + y2))) :
    (1 - yb) * (4 * (2 * k * (y1 + y2) * (2 * k * (y1 + y2))) * (1 - Y)) = (1 - yb) * (s * (u * (4 * (2 * s * k * (y1 - y2) * (2 * s * k * (y1 - y2))))) * (1 + Y)) := by
  have l3 : (1 - yb) * (4 * (2 * k * (y1 + y2) * (2 * k * (y1 + y2))) * (1 - Y)) = 16 * k * k * ((1 - Y) * (1 - yb) * ((y1 + y2) * (y1 + y2))) := by grind
  have l4 : (1 - yb) * (s * (u * (4 * (2 * s * k * (y1 - y2) * (2 * s * k * (y1 - y2))))) * (1 + Y)) = 16 * k * k * s * (u * (1 - yb)) * ((1 + Y) * ((y1 - y2) * (y1 - y2))) := by grind
  rw [l3, l4, hbu, ← key]
  clear l3 l4 hbu key
  grind
theorem lx8 {y1 y2 : F} (h1 : y1 + y2 = 0) (h2 : y1 - y2 = 0) : 2 * y1 = 0 := by grind
theorem lx9 {y1 y2 : F} (h1 : y1 + y2 = 0) (h2 : y1 = 0) : y2 = 0 := by grind
theorem lxa {D x y a b : F} (on : x * x + y * y = 1 + D * x * x * y * y) (h : (1 + D * -x * x * y * y) * a = -x * y + y * x) : (1 + D * -x * x * y * y) * a = (1 + D * -x * x * y * y) * 0 := by grind
theorem lxb {D x y a b : F} (on : x * x + y * y = 1 + D * x * x * y * y) (h : (1 - D * -x * x * y * y) * a = y * y - -x * x) : (1 - D * -x * x * y * y) * a = (1 - D * -x * x * y * y) * 1 := by grind
def uOf {D : F} (s : F) (q : Pt D) : F := s * (1 + q.y) * inv (1 - q.y)
theorem zero_pw (n : Nat) : (0 : F) ^ (n + 1) = 0 := by grind
theorem inv_of (m : Nat) (h : P - 2 = m + 1) : inv 0 = 0 := by unfold inv; rw [h]; exact zero_pw m
theorem inv_zero : inv 0 = 0 := inv_of (P - 3) (by decide +kernel)
section
variable {D s A : F} (M : Mo D s A)
include M
theorem Mo.s_ne : s ≠ 0 := fun h => by have := M.ss; rw [h] at this; exact absurd this (by decide +kernel)
theorem Rep.u {X Z : F} {q : Pt D} (h : Rep s X Z q) : X * inv Z = uOf s q := by
  obtain ⟨h1, h2⟩ := h
  have hs := M.s_ne
  unfold uOf
  by_cases hz : Z = 0
  · subst hz
    have hx : X ≠ 0 := fun e => h2 ⟨e, rfl⟩
    have : X * (1 - q.y) = 0 := by grind
    rcases mul_eq_zero this with e | e
    · exact absurd e hx
    · rw [e, inv_zero]; grind
  · have hy : 1 - q.y ≠ 0 := by
      intro e
      have e2 : 2 * (s * Z) = 0 := by grind
      exact mul_ne two_ne (mul_ne hs hz) e2
    have i1 := mul_inv hz; have i2 := mul_inv hy
    generalize inv Z = a at *
    generalize inv (1 - q.y) = b at *
    clear h2 hs hz hy
    have : X * a = X * a * ((1 - q.y) * b) := by grind
    rw [this]
    have : X * a * ((1 - q.y) * b) = (X * (1 - q.y)) * a * b := by grind
    rw [this, h1]
    grind
omit M in
theorem Rep.O : Rep (D := D) s 1 0 .O := by
  refine ⟨?_, fun h => absurd h.1 (by decide +kernel)⟩
  have e : (Pt.O : Pt D).y = 1 := rfl
  rw [e]; grind
theorem Rep.z0 {X : F} {q : Pt D} (h : Rep s X 0 q) : q = .O := by
  obtain ⟨h1, h2⟩ := h
  have hx : X ≠ 0 := fun e => h2 ⟨e, rfl⟩
  have : X * (1 - q.y) = 0 := by grind
  rcases mul_eq_zero this with e | e
  · exact absurd e hx
  · have hy : q.y = 1 := by grind
    have ho := q.on
    rw [hy] at ho
    have hx2 : q.x * q.x = D * (q.x * q.x) := by grind
    have hx0 : q.x = 0 := by
      apply Classical.byContradiction
      intro hne
      have := M.ns q.x q.x hx2
      exact hne this
    exact Pt.ext hx0 hy
theorem nsy (y : F) : 1 - D * y * y ≠ 0 := by
  intro h
  have h1 : (1 : F) * 1 = D * (y * y) := by grind
  have := M.ns 1 y h1
  rw [this] at h1
  exact absurd h1 (by intro h; have : (0:F) = 1 := by grind
                      exact absurd this (by decide +kernel))
theorem Rep.t {X Z : F} {q : Pt D} (h : Rep s X Z q) : ∃ t, t ≠ 0 ∧ X = s * t * (1 + q.y) ∧ Z = t * (1 - q.y) := by
  obtain ⟨h1, h2⟩ := h
  have hss := M.ss
  have h22 := mul_inv two_ne
  refine ⟨(s * X + Z) * inv 2, ?_, ?_, ?_⟩
  · intro h0
    apply h2
    generalize inv 2 = i at *
    have a1 : s * X + Z = 0 := by grind
    have a2 : s * X - Z = 0 := by grind
    have a3 : 2 * Z = 0 := by grind
    have hz : Z = 0 := (mul_eq_zero a3).resolve_left two_ne
    refine ⟨?_, hz⟩
    grind
  · generalize inv 2 = i at *; grind
  · generalize inv 2 = i at *; grind
/-- doubling -/
theorem Rep.dbl {X Z : F} {q : Pt D} (h : Rep s X Z q) : Rep s ((X * X - Z * Z) * (X * X - Z * Z)) (4 * (X * Z) * (X * X + A * (X * Z) + Z * Z)) (q.add M.ns q) := by
  obtain ⟨t, ht, rfl, rfl⟩ := h.t M
  have b1 := add_y M.ns q q
  have n2 := dm_ne M.ns q q
  have ho := q.on
  have hss := M.ss
  have hd := M.d
  have ha2 := M.a2
  have n3 := nsy M q.y
  obtain ⟨x, y, on⟩ := q
  simp only at *
  clear h
  unfold Rep
  generalize (Pt.add M.ns ⟨x, y, ho⟩ ⟨x, y, ho⟩).y = Y at *
  have key : ∃ k, k ≠ 0 ∧ (s * t * (1 + y) * (s * t * (1 + y)) - t * (1 - y) * (t * (1 - y))) * (s * t * (1 + y) * (s * t * (1 + y)) - t * (1 - y) * (t * (1 - y))) = s * k * (1 + Y) ∧
      4 * (s * t * (1 + y) * (t * (1 - y))) * (s * t * (1 + y) * (s * t * (1 + y)) + A * (s * t * (1 + y) * (t * (1 - y))) + t * (1 - y) * (t * (1 - y))) = k * (1 - Y) := by
    refine ⟨2 * s * (t * t * (t * t)) * (s * A + 2) * (1 - D * y * y) * (1 - D * x * x * y * y), mul_ne (mul_ne (mul_ne (mul_ne (mul_ne two_ne M.s_ne) (mul_ne (mul_ne ht ht) (mul_ne ht ht))) ha2) n3) n2, ?_, ?_⟩
    · grind
    · grind
  obtain ⟨k, hk, e1, e2⟩ := key
  rw [e1, e2]
  refine ⟨by grind, ?_⟩
  rintro ⟨a, b⟩
  have a' : k * (1 + Y) = 0 := by grind
  have : 2 * k = 0 := by grind
  exact hk ((mul_eq_zero this).resolve_left two_ne)
omit M in
theorem Rep.point_u {u : F} {b : Pt D} (h : Rep s u 1 b) : u * (1 - b.y) = s * (1 + b.y) := by have := h.1; grind
omit M in
theorem neg_add (hD : NS D) (p : Pt D) : (Pt.neg p).add hD p = .O := by
  have x1 := add_x hD p.neg p; have y1 := add_y hD p.neg p
  have c1 := dp_ne hD p.neg p; have c2 := dm_ne hD p.neg p
  exact Pt.ext (cancel c1 (lxa (b := 0) p.on x1)) (cancel c2 (lxb (b := 0) p.on y1))
/-- the sum of two points whose difference is b -/
theorem Rep.add {X2 Z2 X3 Z3 u : F} {q b : Pt D} (h2 : Rep s X2 Z2 q) (h3 : Rep s X3 Z3 (q.add M.ns b)) (hb : Rep s u 1 b) (hu : u ≠ 0) :
    Rep s (4 * ((X2 * X3 - Z2 * Z3) * (X2 * X3 - Z2 * Z3))) (u * (4 * ((X2 * Z3 - Z2 * X3) * (X2 * Z3 - Z2 * X3)))) (q.add M.ns (q.add M.ns b)) := by
  obtain ⟨t, ht, g1, g2⟩ := h2.t M
  obtain ⟨r, hr, g3, g4⟩ := h3.t M
  rw [g1, g2, g3, g4]
  clear g1 g2 g3 g4 h2 h3
  have hbu := hb.point_u
  have hss := M.ss
  have hs := M.s_ne
  have hd : q.neg.add M.ns (q.add M.ns b) = b := by rw [← add_assoc, neg_add M.ns, zero_add]
  generalize q.add M.ns b = R at *
  have b2 := add_y M.ns q R
  have m1 := dp_ne M.ns q R; have m2 := dm_ne M.ns q R
  have hby1 : 1 - b.y ≠ 0 := fun e => mul_ne two_ne hs (lx1 hbu e)
  have hby2 : 1 + b.y ≠ 0 := fun e => mul_ne hu two_ne (lx2 hbu e)
  have dy := add_y M.ns q.neg R
  rw [hd] at dy
  have key : (1 + (q.add M.ns R).y) * (1 + b.y) * ((q.y - R.y) * (q.y - R.y)) = (1 - (q.add M.ns R).y) * (1 - b.y) * ((q.y + R.y) * (q.y + R.y)) :=
    cancel (mul_ne m1 m2) (lx3 q.on R.on b2 dy)
  have hnz : ¬ (q.y = 0 ∧ R.y = 0) := by
    rintro ⟨h1, h2⟩
    rcases mul_eq_zero (lx4 h1 h2 q.on R.on dy) with e | e
    · exact hby1 e
    · exact hby2 e
  unfold Rep
  rw [lx5 hss, lx6]
  refine ⟨cancel hby1 (lx7 hss hbu key), ?_⟩
  rintro ⟨z1, z2⟩
  have h4 : (4 : F) ≠ 0 := by decide +kernel
  have k1 := mul_ne ht hr
  have w1 : q.y + R.y = 0 := by
    have a := (mul_eq_zero z1).resolve_left h4
    have a := (mul_eq_zero a).elim id id
    exact (mul_eq_zero a).resolve_left (mul_ne two_ne k1)
  have w2 : q.y - R.y = 0 := by
    have a := (mul_eq_zero z2).resolve_left hu
    have a := (mul_eq_zero a).resolve_left h4
    have a := (mul_eq_zero a).elim id id
    exact (mul_eq_zero a).resolve_left (mul_ne (mul_ne two_ne hs) k1)
  have w4 := (mul_eq_zero (lx8 w1 w2)).resolve_left two_ne
  exact hnz ⟨w4, lx9 w1 w4⟩
end
end Go.Proofs.Ytgneclfnfnpmkaa.Fp
