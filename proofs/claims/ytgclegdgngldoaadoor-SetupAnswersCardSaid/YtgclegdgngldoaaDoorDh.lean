/-
  The ladder over an Edwards curve; own work.
  X25519 in plain Lean: the ladder, that two secrets may change places, and that what is shared is not nought; own work.
-/
import Derived.Test.YtgclegdgngldoaaDoorEdw
set_option linter.unusedVariables false
set_option maxRecDepth 8000
namespace Go.Proofs.YtgclegdgngldoaaDoor.Fp
section
variable {D : F} (hD : NS D)
def Pt.mul (n : Nat) (p : Pt D) : Pt D := match n with
  | 0 => .O
  | n + 1 => (Pt.mul n p).add hD p
theorem mul_zero' (p : Pt D) : p.mul hD 0 = .O := rfl
theorem mul_succ' (n : Nat) (p : Pt D) : p.mul hD (n + 1) = (p.mul hD n).add hD p := rfl
theorem mul_one' (p : Pt D) : p.mul hD 1 = p := by rw [mul_succ', mul_zero', zero_add]
theorem mul_add' (p : Pt D) (n : Nat) : ∀ m, p.mul hD (n + m) = (p.mul hD n).add hD (p.mul hD m)
  | 0 => by rw [mul_zero', add_zero]; rfl
  | m + 1 => by rw [← Nat.add_assoc, mul_succ', mul_add' p n m, mul_succ', add_assoc]
theorem mul_mul' (p : Pt D) (n : Nat) : ∀ m, p.mul hD (n * m) = (p.mul hD n).mul hD m
  | 0 => rfl
  | m + 1 => by rw [Nat.mul_succ, mul_add', mul_mul' p n m]; rfl
theorem mul_O (n : Nat) : (Pt.O : Pt D).mul hD n = .O := by
  induction n with
  | zero => rfl
  | succ n ih => rw [mul_succ', ih, add_zero]
theorem kill_gcd (p : Pt D) : ∀ a b : Nat, p.mul hD a = .O → p.mul hD b = .O → p.mul hD (Nat.gcd a b) = .O := by
  intro a b
  induction a, b using Nat.gcd.induction with
  | H0 y => intro _ h; simpa using h
  | H1 x y hx ih =>
    intro h1 h2
    rw [Nat.gcd_rec]
    refine ih ?_ h1
    have e : y = x * (y / x) + y % x := (Nat.div_add_mod y x).symm
    rw [e, mul_add', mul_mul', h1, mul_O, zero_add] at h2
    exact h2
end
/-- the Montgomery form that belongs to a curve: s is 1 or -1, A is the form's number -/
structure Mo (D s A : F) : Prop where
  ns : NS D
  ss : s * s = 1
  a2 : s * A + 2 ≠ 0
  d : D * (s * A + 2) = s * A - 2
/-- (X : Z) stands for a point -/
def Rep {D : F} (s X Z : F) (q : Pt D) : Prop := X * (1 - q.y) = s * Z * (1 + q.y) ∧ ¬ (X = 0 ∧ Z = 0)
theorem lx1 {u s y : F} (h : u * (1 - y) = s * (1 + y)) (e : 1 - y = 0) : 2 * s = 0 := by grind
theorem lx2 {u s y : F} (h : u * (1 - y) = s * (1 + y)) (e : 1 + y = 0) : u * 2 = 0 := by grind
theorem le1 {d a b Y : F} (h : (1 - d) * Y = a - b) : (1 - d) * (1 + Y) = 1 - d + a - b := by grind
theorem le2 {d a b Y : F} (h : (1 - d) * Y = a - b) : (1 - d) * (1 - Y) = 1 - d - a + b := by grind
theorem le3 {D x1 x2 y1 y2 yb : F} (h : (1 - D * -x1 * x2 * y1 * y2) * yb = y1 * y2 - -x1 * x2) : (1 + D * x1 * x2 * y1 * y2) * (1 + yb) = 1 + D * x1 * x2 * y1 * y2 + y1 * y2 + x1 * x2 := by grind
theorem le4 {D x1 x2 y1 y2 yb : F} (h : (1 - D * -x1 * x2 * y1 * y2) * yb = y1 * y2 - -x1 * x2) : (1 + D * x1 * x2 * y1 * y2) * (1 - yb) = 1 + D * x1 * x2 * y1 * y2 - y1 * y2 - x1 * x2 := by grind
theorem le5 (a b c d e : F) : a * b * (c * d * e) = (b * c) * (a * d) * e := by grind
theorem le6 {D x1 y1 x2 y2 : F} (oq : x1 * x1 + y1 * y1 = 1 + D * x1 * x1 * y1 * y1) (oR : x2 * x2 + y2 * y2 = 1 + D * x2 * x2 * y2 * y2) :
    (1 - D * x1 * x2 * y1 * y2 + y1 * y2 - x1 * x2) * (1 + D * x1 * x2 * y1 * y2 + y1 * y2 + x1 * x2) * ((y1 - y2) * (y1 - y2)) =
    (1 - D * x1 * x2 * y1 * y2 - y1 * y2 + x1 * x2) * (1 + D * x1 * x2 * y1 * y2 - y1 * y2 - x1 * x2) * ((y1 + y2) * (y1 + y2)) := by grind
theorem lx3 {D x1 y1 x2 y2 Y yb : F} (oq : x1 * x1 + y1 * y1 = 1 + D * x1 * x1 * y1 * y1) (oR : x2 * x2 + y2 * y2 = 1 + D * x2 * x2 * y2 * y2) (b2 : (1 - D * x1 * x2 * y1 * y2) * Y = y1 * y2 - x1 * x2)
    (dy : (1 - D * -x1 * x2 * y1 * y2) * yb = y1 * y2 - -x1 * x2) :
    (1 + D * x1 * x2 * y1 * y2) * (1 - D * x1 * x2 * y1 * y2) * ((1 + Y) * (1 + yb) * ((y1 - y2) * (y1 - y2))) = (1 + D * x1 * x2 * y1 * y2) * (1 - D * x1 * x2 * y1 * y2) * ((1 - Y) * (1 - yb) * ((y1 + y2) * (y1 + y2))) := by
  rw [le5, le5, le1 b2, le2 b2, le3 dy, le4 dy]
  exact le6 oq oR
theorem lf1 {D x y : F} (h : y = 0) (o : x * x + y * y = 1 + D * x * x * y * y) : x * x = 1 := by grind
theorem lf2 {D x1 x2 y1 y2 yb : F} (h : y1 = 0) (dy : (1 - D * -x1 * x2 * y1 * y2) * yb = y1 * y2 - -x1 * x2) : yb = x1 * x2 := by grind
theorem lf3 {x1 x2 : F} : (1 - x1 * x2) * (1 + x1 * x2) = 1 - (x1 * x1) * (x2 * x2) := by grind
theorem lx4 {D x1 x2 y1 y2 yb : F} (h1 : y1 = 0) (h2 : y2 = 0) (oq : x1 * x1 + y1 * y1 = 1 + D * x1 * x1 * y1 * y1) (oR : x2 * x2 + y2 * y2 = 1 + D * x2 * x2 * y2 * y2) (dy : (1 - D * -x1 * x2 * y1 * y2) * yb = y1 * y2 - -x1 * x2) : (1 - yb) * (1 + yb) = 0 := by
  rw [lf2 h1 dy, lf3, lf1 h1 oq, lf1 h2 oR]; decide +kernel
theorem lx5 {s t r y1 y2 : F} (hss : s * s = 1) : s * t * (1 + y1) * (s * r * (1 + y2)) - t * (1 - y1) * (r * (1 - y2)) = 2 * (t * r) * (y1 + y2) := by grind
theorem lx6 {s t r y1 y2 : F} : s * t * (1 + y1) * (r * (1 - y2)) - t * (1 - y1) * (s * r * (1 + y2)) = 2 * s * (t * r) * (y1 - y2) := by grind
theorem lx7 {s u k y1 y2 Y yb : F} (hss : s * s = 1) (hbu : u * (1 - yb) = s * (1 + yb)) (key : (1 + Y) * (1 + yb) * ((y1 - y2) * (y1 - y2)) = (1 - Y) * (1 - yb) * ((y1 + y2) * (y1 + y2))) :
    (1 - yb) * (4 * (2 * k * (y1 + y2) * (2 * k * (y1 + y2))) * (1 - Y)) = (1 - yb) * (s * (u * (4 * (2 * s * k * (y1 - y2) * (2 * s * k * (y1 - y2))))) * (1 + Y)) := by
  have l3 : (1 - yb) * (4 * (2 * k * (y1 + y2) * (2 * k * (y1 + y2))) * (1 - Y)) = 16 * k * k * ((1 - Y) * (1 - yb) * ((y1 + y2) * (y1 + y2))) := by grind
  have l4 : (1 - yb) * (s * (u * (4 * (2 * s * k * (y1 - y2) * (2 * s * k * (y1 - y2))))) * (1 + Y)) = 16 * k * k * s * (u * (1 - yb)) * ((1 + Y) * ((y1 - y2) * (y1 - y2))) := by grind
  rw [l3, l4, hbu, ← key]
  clear l3 l4 hbu key
  grind
theorem lx8 {y1 y2 : F} (h1 : y1 + y2 = 0) (h2 : y1 - y2 = 0) : 2 * y1 = 0 := by grind
theorem lx9 {y1 y2 : F} (h1 : y1 + y2 = 0) (h2 : y1 = 0) : y2 = 0 := by grind
theorem lxa {D x y a b : F} (on : x * x + y * y = 1 + D * x * x * y * y) (h : (1 + D * -x * x * y * y) * a = -x * y + y * x) : (1 + D * -x * x * y * y) * a = (1 + D * -x * x * y * y) * 0 := by grind
theorem lxb {D x y a b : F} (on : x * x + y * y = 1 + D * x * x * y * y) (h : (1 - D * -x * x * y * y) * a = y * y - -x * x) : (1 - D * -x * x * y * y) * a = (1 - D * -x * x * y * y) * 1 := by grind
def uOf {D : F} (s : F) (q : Pt D) : F := s * (1 + q.y) * inv (1 - q.y)
theorem zero_pw (n : Nat) : (0 : F) ^ (n + 1) = 0 := by grind
theorem inv_of (m : Nat) (h : P - 2 = m + 1) : inv 0 = 0 := by unfold inv; rw [h]; exact zero_pw m
theorem inv_zero : inv 0 = 0 := inv_of (P - 3) (by decide +kernel)
section
variable {D s A : F} (M : Mo D s A)
include M
theorem Mo.s_ne : s ≠ 0 := fun h => by have := M.ss; rw [h] at this; exact absurd this (by decide +kernel)
theorem Rep.u {X Z : F} {q : Pt D} (h : Rep s X Z q) : X * inv Z = uOf s q := by
  obtain ⟨h1, h2⟩ := h
  have hs := M.s_ne
  unfold uOf
  by_cases hz : Z = 0
  · subst hz
    have hx : X ≠ 0 := fun e => h2 ⟨e, rfl⟩
    have : X * (1 - q.y) = 0 := by grind
    rcases mul_eq_zero this with e | e
    · exact absurd e hx
    · rw [e, inv_zero]; grind
  · have hy : 1 - q.y ≠ 0 := by
      intro e
      have e2 : 2 * (s * Z) = 0 := by grind
      exact mul_ne two_ne (mul_ne hs hz) e2
    have i1 := mul_inv hz; have i2 := mul_inv hy
    generalize inv Z = a at *
    generalize inv (1 - q.y) = b at *
    clear h2 hs hz hy
    have : X * a = X * a * ((1 - q.y) * b) := by grind
    rw [this]
    have : X * a * ((1 - q.y) * b) = (X * (1 - q.y)) * a * b := by grind
    rw [this, h1]
    grind
omit M in
theorem Rep.O : Rep (D := D) s 1 0 .O := by
  refine ⟨?_, fun h => absurd h.1 (by decide +kernel)⟩
  have e : (Pt.O : Pt D).y = 1 := rfl
  rw [e]; grind
theorem Rep.z0 {X : F} {q : Pt D} (h : Rep s X 0 q) : q = .O := by
  obtain ⟨h1, h2⟩ := h
  have hx : X ≠ 0 := fun e => h2 ⟨e, rfl⟩
  have : X * (1 - q.y) = 0 := by grind
  rcases mul_eq_zero this with e | e
  · exact absurd e hx
  · have hy : q.y = 1 := by grind
    have ho := q.on
    rw [hy] at ho
    have hx2 : q.x * q.x = D * (q.x * q.x) := by grind
    have hx0 : q.x = 0 := by
      apply Classical.byContradiction
      intro hne
      have := M.ns q.x q.x hx2
      exact hne this
    exact Pt.ext hx0 hy
theorem nsy (y : F) : 1 - D * y * y ≠ 0 := by
  intro h
  have h1 : (1 : F) * 1 = D * (y * y) := by grind
  have := M.ns 1 y h1
  rw [this] at h1
  exact absurd h1 (by intro h; have : (0:F) = 1 := by grind
                      exact absurd this (by decide +kernel))
theorem Rep.t {X Z : F} {q : Pt D} (h : Rep s X Z q) : ∃ t, t ≠ 0 ∧ X = s * t * (1 + q.y) ∧ Z = t * (1 - q.y) := by
  obtain ⟨h1, h2⟩ := h
  have hss := M.ss
  have h22 := mul_inv two_ne
  refine ⟨(s * X + Z) * inv 2, ?_, ?_, ?_⟩
  · intro h0
    apply h2
    generalize inv 2 = i at *
    have a1 : s * X + Z = 0 := by grind
    have a2 : s * X - Z = 0 := by grind
    have a3 : 2 * Z = 0 := by grind
    have hz : Z = 0 := (mul_eq_zero a3).resolve_left two_ne
    refine ⟨?_, hz⟩
    grind
  · generalize inv 2 = i at *; grind
  · generalize inv 2 = i at *; grind
/-- doubling -/
theorem Rep.dbl {X Z : F} {q : Pt D} (h : Rep s X Z q) : Rep s ((X * X - Z * Z) * (X * X - Z * Z)) (4 * (X * Z) * (X * X + A * (X * Z) + Z * Z)) (q.add M.ns q) := by
  obtain ⟨t, ht, rfl, rfl⟩ := h.t M
  have b1 := add_y M.ns q q
  have n2 := dm_ne M.ns q q
  have ho := q.on
  have hss := M.ss
  have hd := M.d
  have ha2 := M.a2
  have n3 := nsy M q.y
  obtain ⟨x, y, on⟩ := q
  simp only at *
  clear h
  unfold Rep
  generalize (Pt.add M.ns ⟨x, y, ho⟩ ⟨x, y, ho⟩).y = Y at *
  have key : ∃ k, k ≠ 0 ∧ (s * t * (1 + y) * (s * t * (1 + y)) - t * (1 - y) * (t * (1 - y))) * (s * t * (1 + y) * (s * t * (1 + y)) - t * (1 - y) * (t * (1 - y))) = s * k * (1 + Y) ∧
      4 * (s * t * (1 + y) * (t * (1 - y))) * (s * t * (1 + y) * (s * t * (1 + y)) + A * (s * t * (1 + y) * (t * (1 - y))) + t * (1 - y) * (t * (1 - y))) = k * (1 - Y) := by
    refine ⟨2 * s * (t * t * (t * t)) * (s * A + 2) * (1 - D * y * y) * (1 - D * x * x * y * y), mul_ne (mul_ne (mul_ne (mul_ne (mul_ne two_ne M.s_ne) (mul_ne (mul_ne ht ht) (mul_ne ht ht))) ha2) n3) n2, ?_, ?_⟩
    · grind
    · grind
  obtain ⟨k, hk, e1, e2⟩ := key
  rw [e1, e2]
  refine ⟨by grind, ?_⟩
  rintro ⟨a, b⟩
  have a' : k * (1 + Y) = 0 := by grind
  have : 2 * k = 0 := by grind
  exact hk ((mul_eq_zero this).resolve_left two_ne)
omit M in
theorem Rep.point_u {u : F} {b : Pt D} (h : Rep s u 1 b) : u * (1 - b.y) = s * (1 + b.y) := by have := h.1; grind
omit M in
theorem neg_add (hD : NS D) (p : Pt D) : (Pt.neg p).add hD p = .O := by
  have x1 := add_x hD p.neg p; have y1 := add_y hD p.neg p
  have c1 := dp_ne hD p.neg p; have c2 := dm_ne hD p.neg p
  exact Pt.ext (cancel c1 (lxa (b := 0) p.on x1)) (cancel c2 (lxb (b := 0) p.on y1))
/-- the sum of two points whose difference is b -/
theorem Rep.add {X2 Z2 X3 Z3 u : F} {q b : Pt D} (h2 : Rep s X2 Z2 q) (h3 : Rep s X3 Z3 (q.add M.ns b)) (hb : Rep s u 1 b) (hu : u ≠ 0) :
    Rep s (4 * ((X2 * X3 - Z2 * Z3) * (X2 * X3 - Z2 * Z3))) (u * (4 * ((X2 * Z3 - Z2 * X3) * (X2 * Z3 - Z2 * X3)))) (q.add M.ns (q.add M.ns b)) := by
  obtain ⟨t, ht, g1, g2⟩ := h2.t M
  obtain ⟨r, hr, g3, g4⟩ := h3.t M
  rw [g1, g2, g3, g4]
  clear g1 g2 g3 g4 h2 h3
  have hbu := hb.point_u
  have hss := M.ss
  have hs := M.s_ne
  have hd : q.neg.add M.ns (q.add M.ns b) = b := by rw [← add_assoc, neg_add M.ns, zero_add]
  generalize q.add M.ns b = R at *
  have b2 := add_y M.ns q R
  have m1 := dp_ne M.ns q R; have m2 := dm_ne M.ns q R
  have hby1 : 1 - b.y ≠ 0 := fun e => mul_ne two_ne hs (lx1 hbu e)
  have hby2 : 1 + b.y ≠ 0 := fun e => mul_ne hu two_ne (lx2 hbu e)
  have dy := add_y M.ns q.neg R
  rw [hd] at dy
  have key : (1 + (q.add M.ns R).y) * (1 + b.y) * ((q.y - R.y) * (q.y - R.y)) = (1 - (q.add M.ns R).y) * (1 - b.y) * ((q.y + R.y) * (q.y + R.y)) :=
    cancel (mul_ne m1 m2) (lx3 q.on R.on b2 dy)
  have hnz : ¬ (q.y = 0 ∧ R.y = 0) := by
    rintro ⟨h1, h2⟩
    rcases mul_eq_zero (lx4 h1 h2 q.on R.on dy) with e | e
    · exact hby1 e
    · exact hby2 e
  unfold Rep
  rw [lx5 hss, lx6]
  refine ⟨cancel hby1 (lx7 hss hbu key), ?_⟩
  rintro ⟨z1, z2⟩
  have h4 : (4 : F) ≠ 0 := by decide +kernel
  have k1 := mul_ne ht hr
  have w1 : q.y + R.y = 0 := by
    have a := (mul_eq_zero z1).resolve_left h4
    have a := (mul_eq_zero a).elim id id
    exact (mul_eq_zero a).resolve_left (mul_ne two_ne k1)
  have w2 : q.y - R.y = 0 := by
    have a := (mul_eq_zero z2).resolve_left hu
    have a := (mul_eq_zero a).resolve_left h4
    have a := (mul_eq_zero a).elim id id
    exact (mul_eq_zero a).resolve_left (mul_ne (mul_ne two_ne hs) k1)
  have w4 := (mul_eq_zero (lx8 w1 w2)).resolve_left two_ne
  exact hnz ⟨w4, lx9 w1 w4⟩
end
end Go.Proofs.YtgclegdgngldoaaDoor.Fp
set_option linter.unusedVariables false
set_option maxRecDepth 8000
namespace Go.Proofs.YtgclegdgngldoaaDoor.Fp
structure St where
  x2 : F
  z2 : F
  x3 : F
  z3 : F
def twX (x z : F) : F := (x + z) * (x + z) * ((x - z) * (x - z))
def twZ (x z : F) : F := ((x + z) * (x + z) - (x - z) * (x - z)) * ((x + z) * (x + z) + 121665 * ((x + z) * (x + z) - (x - z) * (x - z)))
def smS (x z X Z : F) : F := (X - Z) * (x + z) + (X + Z) * (x - z)
def smT (x z X Z : F) : F := (X - Z) * (x + z) - (X + Z) * (x - z)
def smX (x z X Z : F) : F := smS x z X Z * smS x z X Z
def smZ (u x z X Z : F) : F := u * (smT x z X Z * smT x z X Z)
def lstep (u : F) (b : Bool) (s : St) : St :=
  bif b then ⟨smX s.x3 s.z3 s.x2 s.z2, smZ u s.x3 s.z3 s.x2 s.z2, twX s.x3 s.z3, twZ s.x3 s.z3⟩
  else ⟨twX s.x2 s.z2, twZ s.x2 s.z2, smX s.x2 s.z2 s.x3 s.z3, smZ u s.x2 s.z2 s.x3 s.z3⟩
/-- n steps, for the n highest ones of 255 bits -/
def lad (u : F) (k : Nat) : Nat → St
  | 0 => ⟨1, 0, u, 1⟩
  | n + 1 => lstep u ((k / 2 ^ (254 - n)) % 2 == 1) (lad u k n)
def gx (k : Nat) (u : F) : F := (lad u k 255).x2 * inv (lad u k 255).z2
theorem twX_eq (x z : F) : twX x z = (x * x - z * z) * (x * x - z * z) := by unfold twX; grind
theorem twZ_eq (x z : F) : twZ x z = 4 * (x * z) * (x * x + 486662 * (x * z) + z * z) := by unfold twZ; grind
theorem smX_eq (x z X Z : F) : smX x z X Z = 4 * ((x * X - z * Z) * (x * X - z * Z)) := by unfold smX smS; grind
theorem smZ_eq (u x z X Z : F) : smZ u x z X Z = u * (4 * ((x * Z - z * X) * (x * Z - z * X))) := by unfold smZ smT; grind
theorem smX_comm (x z X Z : F) : smX x z X Z = smX X Z x z := by rw [smX_eq, smX_eq]; grind
theorem smZ_comm (u x z X Z : F) : smZ u x z X Z = smZ u X Z x z := by rw [smZ_eq, smZ_eq]; grind
section
variable {D s : F} (M : Mo D s 486662)
include M
theorem lad_spec {u : F} {b : Pt D} (hb : Rep s u 1 b) (hu : u ≠ 0) (k : Nat) (hk : k < 2 ^ 255) : ∀ n, n ≤ 255 →
    Rep s (lad u k n).x2 (lad u k n).z2 (b.mul M.ns (k / 2 ^ (255 - n))) ∧ Rep s (lad u k n).x3 (lad u k n).z3 (b.mul M.ns (k / 2 ^ (255 - n) + 1))
  | 0, _ => by
    have e : k / 2 ^ (255 - 0) = 0 := Nat.div_eq_of_lt hk
    rw [e, mul_zero', mul_one']
    exact ⟨Rep.O, hb⟩
  | n + 1, h => by
    obtain ⟨h2, h3⟩ := lad_spec hb hu k hk n (by omega)
    obtain ⟨m, hm⟩ : ∃ m, m = k / 2 ^ (255 - n) := ⟨_, rfl⟩
    rw [← hm] at h2 h3
    have e1 : 255 - n = (254 - n) + 1 := by omega
    have e2 : k / 2 ^ (255 - (n + 1)) = 2 * m + k / 2 ^ (254 - n) % 2 := by
      have : 255 - (n + 1) = 254 - n := by omega
      rw [hm, this, e1, Nat.pow_succ, ← Nat.div_div_eq_div_mul]
      omega
    rw [e2]
    have ha : Rep s (4 * (((lad u k n).x2 * (lad u k n).x3 - (lad u k n).z2 * (lad u k n).z3) * ((lad u k n).x2 * (lad u k n).x3 - (lad u k n).z2 * (lad u k n).z3))) (u * (4 * (((lad u k n).x2 * (lad u k n).z3 - (lad u k n).z2 * (lad u k n).x3) * ((lad u k n).x2 * (lad u k n).z3 - (lad u k n).z2 * (lad u k n).x3)))) (b.mul M.ns (2 * m + 1)) := by
      have := Rep.add M h2 (by rw [mul_succ'] at h3; exact h3) hb hu
      rwa [← mul_succ', ← mul_add', show m + (m + 1) = 2 * m + 1 by omega] at this
    rw [← smX_eq, ← smZ_eq] at ha
    show Rep s (lstep u _ (lad u k n)).x2 (lstep u _ (lad u k n)).z2 _ ∧ Rep s (lstep u _ (lad u k n)).x3 (lstep u _ (lad u k n)).z3 _
    rcases Nat.mod_two_eq_zero_or_one (k / 2 ^ (254 - n)) with h0 | h0
    · rw [h0]
      refine ⟨?_, ha⟩
      have := Rep.dbl M h2
      rwa [← twX_eq, ← twZ_eq, ← mul_add', show m + m = 2 * m + 0 by omega] at this
    · rw [h0]
      rw [smX_comm, smZ_comm] at ha
      refine ⟨ha, ?_⟩
      have := Rep.dbl M h3
      rwa [← twX_eq, ← twZ_eq, ← mul_add', show m + 1 + (m + 1) = 2 * m + 1 + 1 by omega] at this
theorem gx_spec {u : F} {b : Pt D} (hb : Rep s u 1 b) (hu : u ≠ 0) (k : Nat) (hk : k < 2 ^ 255) : gx k u = uOf s (b.mul M.ns k) := by
  have h := (lad_spec M hb hu k hk 255 (Nat.le_refl _)).1
  rw [Nat.sub_self, Nat.pow_zero, Nat.div_one] at h
  exact h.u M
omit M in
theorem lg1 {s y i : F} (hy : (1 - y) * i = 1) : s * (1 + y) * i * (1 - y) = s * 1 * (1 + y) := by grind
omit M in
theorem lg2 {y : F} (e : 1 - y = 0) : y = 1 := by grind
omit M in
theorem lg3 {y : F} (e : 1 + y = 0) : y * y = 1 := by grind
omit M in
theorem lg4 {D x y : F} (h : y * y = 1) (o : x * x + y * y = 1 + D * x * x * y * y) : x * x = D * (x * x) := by grind
omit M in
theorem rep_uOf {q : Pt D} (h : uOf s q ≠ 0) : Rep s (uOf s q) 1 q := by
  have hy : 1 - q.y ≠ 0 := by
    intro e
    apply h
    unfold uOf
    rw [e, inv_zero]
    generalize s * (1 + q.y) = z
    grind
  refine ⟨?_, fun a => absurd a.2 (by decide +kernel)⟩
  unfold uOf
  exact lg1 (mul_inv hy)
theorem x_zero {q : Pt D} (h : q.y * q.y = 1) : q.x = 0 := by
  apply Classical.byContradiction
  intro hne
  exact hne (M.ns _ _ (lg4 h q.on))
theorem uOf_zero {q : Pt D} (h : uOf s q = 0) : q.y * q.y = 1 := by
  unfold uOf at h
  by_cases hy : 1 - q.y = 0
  · rw [lg2 hy]; decide +kernel
  · have hi : inv (1 - q.y) ≠ 0 := by
      intro e
      have := mul_inv hy
      rw [e] at this
      have h2 : (0 : F) = 1 := by rw [← this]; generalize 1 - q.y = z; grind
      exact absurd h2 (by decide +kernel)
    have h1 := (mul_eq_zero h).resolve_right hi
    exact lg3 ((mul_eq_zero h1).resolve_left M.s_ne)
omit M in
theorem mul_inv0 {z w : F} (h : w = 0) : z * inv w = 0 := by rw [h, inv_zero]; clear h; grind
omit M in
theorem uOf_O : uOf s (Pt.O : Pt D) = 0 := by
  have e : (Pt.O : Pt D).y = 1 := rfl
  unfold uOf
  exact mul_inv0 (by rw [e]; decide +kernel)
omit M in
theorem lg5 {D x y a b : F} (hx : x = 0) (hy : y * y = 1) (h1 : (1 + D * x * x * y * y) * a = x * y + y * x) : (1 + D * x * x * y * y) * a = (1 + D * x * x * y * y) * 0 := by grind
omit M in
theorem lg6 {D x y a b : F} (hx : x = 0) (hy : y * y = 1) (h1 : (1 - D * x * x * y * y) * a = y * y - x * x) : (1 - D * x * x * y * y) * a = (1 - D * x * x * y * y) * 1 := by grind
theorem dbl_T {q : Pt D} (h : q.y * q.y = 1) : q.add M.ns q = .O := by
  have hx := x_zero M h
  exact Pt.ext (cancel (dp_ne M.ns q q) (lg5 (b := 0) hx h (add_x M.ns q q))) (cancel (dm_ne M.ns q q) (lg6 (b := 0) hx h (add_y M.ns q q)))
theorem even_T {q : Pt D} (h : q.y * q.y = 1) (c : Nat) : q.mul M.ns (2 * c) = .O := by
  rw [mul_mul', show (2 : Nat) = 0 + 1 + 1 from rfl, mul_succ', mul_succ', mul_zero', zero_add, dbl_T M h, mul_O]
end
/-- two secrets one behind the other -/
theorem gx_gx {D s : F} (M : Mo D s 486662) {u : F} {b : Pt D} (hb : Rep s u 1 b) (hu : u ≠ 0) (k j : Nat) (hk : k < 2 ^ 255) (hj : j < 2 ^ 255) (h : gx k u ≠ 0) : gx j (gx k u) = uOf s (b.mul M.ns (k * j)) := by
  rw [gx_spec M hb hu k hk] at h ⊢
  have h1 := rep_uOf h
  rw [gx_spec M h1 h j hj, ← mul_mul']
theorem gx_swap0 {D s : F} (M : Mo D s 486662) {u : F} {b : Pt D} (hb : Rep s u 1 b) (hu : u ≠ 0) (k j : Nat) (hk : k < 2 ^ 255) (hj : j < 2 ^ 255) (ej : j % 2 = 0) (h : gx k u = 0) (h2 : gx j u ≠ 0) : gx k (gx j u) = 0 := by
  rw [gx_gx M hb hu j k hj hk h2, Nat.mul_comm, mul_mul']
  rw [gx_spec M hb hu k hk] at h
  have e := even_T M (uOf_zero M h) (j / 2)
  rw [show 2 * (j / 2) = j by omega] at e
  rw [e, uOf_O]
/-- Euler -/
def half : Nat := 28948022309329048855892746252171976963317496166410141009864396001978282409974
theorem half_two : P - 1 = half * 2 := by decide +kernel
theorem pow_two_mul (a : F) (n : Nat) : a ^ (n * 2) = a ^ n * a ^ n := by
  induction n with
  | zero => grind
  | succ n ih =>
    have e1 : a ^ (n + 1) = a ^ n * a := by grind
    have e2 : a ^ ((n + 1) * 2) = a ^ (n * 2) * (a * a) := by rw [Nat.succ_mul]; generalize n * 2 = m; grind
    rw [e1, e2, ih]
    generalize a ^ n = x
    clear ih e1 e2
    grind
theorem lh1 {h : F} (e : h * h = 1) : (h - 1) * (h + 1) = 0 := by grind
theorem lh2 {h : F} (e : h - 1 = 0) : h = 1 := by grind
theorem lh3 {h : F} (e : h + 1 = 0) : h = -1 := by grind
theorem euler {a : F} (ha : a ≠ 0) : a ^ half = 1 ∨ a ^ half = -1 := by
  have h := fermat ha
  rw [half_two, pow_two_mul] at h
  rcases mul_eq_zero (lh1 h) with e | e
  · exact .inl (lh2 e)
  · exact .inr (lh3 e)
theorem one_ne_neg : (1 : F) ≠ -1 := by decide +kernel
theorem sq_half {a : F} (ha : a ≠ 0) : (a * a) ^ half = 1 := by
  have h := fermat ha
  rw [half_two] at h
  have e : (a * a) ^ half = a ^ (half * 2) := by
    have : ∀ n : Nat, (a * a) ^ n = a ^ (n * 2) := fun n => by
      induction n with
      | zero => grind
      | succ n ih =>
        have e1 : (a * a) ^ (n + 1) = (a * a) ^ n * (a * a) := by grind
        have e2 : a ^ ((n + 1) * 2) = a ^ (n * 2) * (a * a) := by rw [Nat.succ_mul]; generalize n * 2 = m; grind
        rw [e1, e2, ih]
    exact this half
  rw [e, h]
theorem mul_pw (a b : F) (n : Nat) : (a * b) ^ n = a ^ n * b ^ n := by
  induction n with
  | zero => grind
  | succ n ih =>
    have e1 : (a * b) ^ (n + 1) = (a * b) ^ n * (a * b) := by grind
    have e2 : a ^ (n + 1) = a ^ n * a := by grind
    have e3 : b ^ (n + 1) = b ^ n * b := by grind
    rw [e1, e2, e3, ih]
    generalize a ^ n = x; generalize b ^ n = y
    clear ih e1 e2 e3
    grind
/-- a number whose half power is -1 is no square's multiple -/
theorem ns_of {D : F} (h : D ^ half = -1) : NS D := by
  intro a b e
  apply Classical.byContradiction
  intro hb
  have hD : D ≠ 0 := by
    intro hd
    rw [hd] at h
    have : (0 : F) ^ half = 0 := by
      have e : half = (half - 1) + 1 := by decide +kernel
      rw [e]; exact zero_pw _
    rw [this] at h
    exact absurd h (by decide +kernel)
  have ha : a ≠ 0 := by
    intro ha
    rw [ha] at e
    have h0 : D * (b * b) = 0 := by rw [← e]; decide +kernel
    exact mul_ne hD (mul_ne hb hb) h0
  have h1 := sq_half ha
  rw [e, mul_pw, sq_half hb, h] at h1
  exact absurd h1 (by decide +kernel)
theorem fpow_eval (a : F) (n k : Nat) (hk : n < 2 ^ k) (v : Nat) (hv : pw P a.val k n = v) : (a ^ n).val = v := by
  rw [val_pow, ← pw_eq P a.val k n hk, hv]

theorem half_lt : half < 2 ^ 255 := by decide +kernel
theorem minus_val : P - 1 = (-1 : F).val := by decide +kernel
theorem ns_lit (D : F) (h : pw P D.val 255 half = P - 1) : NS D := ns_of (Fin.ext ((fpow_eval D half 255 half_lt _ h).trans minus_val))
def D1 : F := 20800338683988658368647408995589388737092878452977063003340006470870624536394
def D2 : F := 28692721048178265397853269683490922171210976843790175684556505508326675974058
def I4 : F := 19681161376707505956807079304988542015446066515923890162744021073123829784752
def G : F := 48802004052532134862652268456126542835229456083994414501085850622543968879637
theorem ns1 : NS D1 := ns_lit _ (by decide +kernel)
theorem ns2 : NS D2 := ns_lit _ (by decide +kernel)
theorem ns3 : NS 486660 := ns_lit _ (by decide +kernel)
theorem ns4 : NS 236839902240 := ns_lit _ (by decide +kernel)
theorem half3 : (486660 : F) ^ half = -1 := Fin.ext ((fpow_eval _ half 255 half_lt (P - 1) (by decide +kernel)).trans minus_val)
theorem half4 : (486664 : F) ^ half = 1 := Fin.ext (fpow_eval _ half 255 half_lt 1 (by decide +kernel))
theorem mo1 : Mo D1 1 486662 := ⟨ns1, by decide +kernel, by decide +kernel, by decide +kernel⟩
theorem mo2 : Mo D2 (-1) 486662 := ⟨ns2, by decide +kernel, by decide +kernel, by decide +kernel⟩
def e8 : Nat := 7237005577332262213973186563042994240829374041602535252466099000494570602494
theorem e8_eq : e8 * 2 * 2 = half + 2 := by decide +kernel
theorem I4_sq : I4 * I4 = -1 := by decide +kernel
theorem G_sq : G * G = 486664 := by decide +kernel
theorem ls1 {c w : F} (e : c * c * (c * c) = w * w) : (c * c - w) * (c * c + w) = 0 := by grind
theorem ls2 {c w : F} (e : c * c - w = 0) : c * c = w := by grind
theorem ls3 {c w i : F} (hi : i * i = -1) (e : c * c + w = 0) : (c * i) * (c * i) = w := by grind
theorem pw_add2 (a : F) (n : Nat) : a ^ (n + 2) = a ^ n * (a * a) := by grind
theorem sqrt_ex {w : F} (h : w ^ half = 1) : ∃ r, r * r = w := by
  have e : w ^ (e8 * 2 * 2) = w * w := by rw [e8_eq, pw_add2, h]; generalize w * w = z; grind
  rw [pow_two_mul, pow_two_mul] at e
  rcases mul_eq_zero (ls1 e) with k | k
  · exact ⟨_, ls2 k⟩
  · exact ⟨_, ls3 I4_sq k⟩
def q1 (u : F) : F := u * u + 486662 * u + 1
theorem lq1 {u : F} (h : u * u + 486662 * u + 1 = 0) : (2 * u + 486662) * (2 * u + 486662) = 236839902240 * (1 * 1) := by grind
theorem one_ne : (1 : F) ≠ 0 := by decide +kernel
theorem q1_ne (u : F) : u * u + 486662 * u + 1 ≠ 0 := fun h => one_ne (ns4 _ _ (lq1 h))
theorem lq2 {u r : F} (h : u + 1 = 0) (hr : r * r = u * (u * u + 486662 * u + 1)) : r * r = 486660 * (1 * 1) := by grind
theorem lq3 {u w : F} (h : u - 1 = 0) (hw : w = u * (u * u + 486662 * u + 1)) : w = 486664 := by grind
theorem on1 {u r i j g D q : F} (hq : q = u * u + 486662 * u + 1) (hr : r * r = u * q) (hg : g * g = 486664) (hD : D * 486664 = 486660) (hi : q * i = 1) (hj : (u + 1) * j = 1) :
    (g * r * i) * (g * r * i) + ((u - 1) * j) * ((u - 1) * j) = 1 + D * (g * r * i) * (g * r * i) * ((u - 1) * j) * ((u - 1) * j) := by
  have e1 : (g * r * i) * (g * r * i) = 486664 * (u * i) := by
    have : (g * r * i) * (g * r * i) = (g * g) * (r * r) * (i * i) := by clear hr hg hD hi hj hq; grind
    rw [this, hr, hg]; clear this hr hg hD hj hq; grind
  have e2 : ((u - 1) * j) * ((u - 1) * j) = 1 - 4 * u * (j * j) := by clear e1 hq hr hg hD hi; grind
  have e3 : 486664 * (1 - D * (((u - 1) * j) * ((u - 1) * j))) = 4 * q * (j * j) := by rw [hq]; clear e1 e2 hq hr hg hi; grind
  have e4 : (g * r * i) * (g * r * i) * (1 - D * (((u - 1) * j) * ((u - 1) * j))) = 4 * u * (j * j) := by
    rw [e1]
    have : 486664 * (u * i) * (1 - D * (((u - 1) * j) * ((u - 1) * j))) = (u * i) * (486664 * (1 - D * (((u - 1) * j) * ((u - 1) * j)))) := by clear e1 e2 e3 hq hr hg hD hi hj; grind
    rw [this, e3]; clear this e1 e2 e3 hq hr hg hD hj; grind
  generalize (g * r * i) = x at *
  generalize (u - 1) * j = y at *
  clear e1 e3 hq hr hg hD hi hj
  grind
theorem on2 {u r i j D q : F} (hq : q = u * u + 486662 * u + 1) (hr : r * r = 486660 * (u * q)) (hD : D * 486660 = 486664) (hi : q * i = 1) (hj : (u - 1) * j = 1) :
    (r * i) * (r * i) + ((u + 1) * j) * ((u + 1) * j) = 1 + D * (r * i) * (r * i) * ((u + 1) * j) * ((u + 1) * j) := by
  have e1 : (r * i) * (r * i) = 486660 * (u * i) := by
    have : (r * i) * (r * i) = (r * r) * (i * i) := by clear hr hD hi hj hq; grind
    rw [this, hr]; clear this hr hD hj hq; grind
  have e2 : ((u + 1) * j) * ((u + 1) * j) = 1 + 4 * u * (j * j) := by clear e1 hq hr hD hi; grind
  have e3 : 486660 * (1 - D * (((u + 1) * j) * ((u + 1) * j))) = -(4 * q * (j * j)) := by rw [hq]; clear e1 e2 hq hr hi; grind
  have e4 : (r * i) * (r * i) * (1 - D * (((u + 1) * j) * ((u + 1) * j))) = -(4 * u * (j * j)) := by
    rw [e1]
    have : 486660 * (u * i) * (1 - D * (((u + 1) * j) * ((u + 1) * j))) = (u * i) * (486660 * (1 - D * (((u + 1) * j) * ((u + 1) * j)))) := by clear e1 e2 e3 hq hr hD hi hj; grind
    rw [this, e3]; clear this e1 e2 e3 hq hr hD hj; grind
  generalize (r * i) = x at *
  generalize (u + 1) * j = y at *
  clear e1 e3 hq hr hD hi hj
  grind
theorem D1_eq : D1 * 486664 = 486660 := by decide +kernel
theorem D2_eq : D2 * 486660 = 486664 := by decide +kernel
theorem rp1 {u j : F} (hj : (u + 1) * j = 1) : u * (1 - (u - 1) * j) = 1 * 1 * (1 + (u - 1) * j) := by grind
theorem rp2 {u j : F} (hj : (u - 1) * j = 1) : u * (1 - (u + 1) * j) = -1 * 1 * (1 + (u + 1) * j) := by grind
/-- each number but nought is a point's -/
theorem exists_pt {u : F} (hu : u ≠ 0) : ∃ (D s : F) (M : Mo D s 486662) (b : Pt D), Rep s u 1 b := by
  have hq := q1_ne u
  have hi := mul_inv hq
  obtain ⟨w, hw⟩ : ∃ w, w = u * (u * u + 486662 * u + 1) := ⟨_, rfl⟩
  have hw0 : w ≠ 0 := by rw [hw]; exact mul_ne hu hq
  rcases euler hw0 with h | h
  · obtain ⟨r, hr⟩ := sqrt_ex h
    rw [hw] at hr
    have hu1 : u + 1 ≠ 0 := fun e => one_ne (ns3 _ _ (lq2 e hr))
    have hj := mul_inv hu1
    exact ⟨D1, 1, mo1, ⟨_, _, on1 rfl hr G_sq D1_eq hi hj⟩, rp1 hj, fun a => one_ne a.2⟩
  · have h2 : (486660 * w) ^ half = 1 := by rw [mul_pw, half3, h]; decide +kernel
    obtain ⟨r, hr⟩ := sqrt_ex h2
    rw [hw] at hr
    have hu1 : u - 1 ≠ 0 := fun e => by
      rw [lq3 e hw, half4] at h
      exact one_ne_neg h
    have hj := mul_inv hu1
    exact ⟨D2, -1, mo2, ⟨_, _, on2 rfl hr D2_eq hi hj⟩, rp2 hj, fun a => one_ne a.2⟩
/-- TWO SECRETS MAY CHANGE PLACES -/
theorem gx_comm {u : F} (hu : u ≠ 0) (k j : Nat) (hk : k < 2 ^ 255) (hj : j < 2 ^ 255) (h1 : gx k u ≠ 0) (h2 : gx j u ≠ 0) : gx j (gx k u) = gx k (gx j u) := by
  obtain ⟨D, s, M, b, hb⟩ := exists_pt hu
  rw [gx_gx M hb hu k j hk hj h1, gx_gx M hb hu j k hj hk h2, Nat.mul_comm]
theorem gx_zero {u : F} (hu : u ≠ 0) (k j : Nat) (hk : k < 2 ^ 255) (hj : j < 2 ^ 255) (ej : j % 2 = 0) (h1 : gx k u = 0) (h2 : gx j u ≠ 0) : gx k (gx j u) = 0 := by
  obtain ⟨D, s, M, b, hb⟩ := exists_pt hu
  exact gx_swap0 M hb hu k j hk hj ej h1 h2
/-- the order of the base point -/
def L : Nat := 7237005577332262213973186563042994240857116359379907606001950938285454250989
theorem prL : Prime L := prime_l25519
theorem nine_ne : (9 : F) ≠ 0 := by decide +kernel
theorem lad_L : (lad 9 L 255).z2 = 0 := by decide +kernel
theorem base_order {D s : F} (M : Mo D s 486662) {b : Pt D} (hb : Rep s 9 1 b) : b.mul M.ns L = .O := by
  have h := (lad_spec M hb nine_ne L (by decide +kernel) 255 (Nat.le_refl _)).1
  rw [Nat.sub_self, Nat.pow_zero, Nat.div_one, lad_L] at h
  exact h.z0 M
theorem base_ne {D s : F} {b : Pt D} (hs : s * s = 1) (hb : Rep s 9 1 b) : b ≠ .O := by
  intro e
  have h := hb.1
  rw [e] at h
  have e1 : (Pt.O : Pt D).y = 1 := rfl
  rw [e1] at h
  have hs0 : s ≠ 0 := fun h => by rw [h] at hs; exact absurd hs (by decide +kernel)
  have : 2 * s = 0 := by
    have h0 : (9 : F) * (1 - 1) = 0 := by decide +kernel
    rw [h0] at h
    clear h0 hs hs0 hb
    grind
  exact mul_ne two_ne hs0 this
theorem base_mul {D s : F} (M : Mo D s 486662) {b : Pt D} (hb : Rep s 9 1 b) (n : Nat) (hn : ¬ L ∣ n) : b.mul M.ns n ≠ .O := by
  intro e
  have h := kill_gcd M.ns b L n (base_order M hb) e
  rw [prL.coprime hn, mul_one'] at h
  exact base_ne M.ss hb h
theorem base_u {D s : F} (M : Mo D s 486662) {b : Pt D} (hb : Rep s 9 1 b) (n : Nat) (hn : ¬ L ∣ n) : uOf s (b.mul M.ns n) ≠ 0 := by
  intro e
  have h := even_T M (uOf_zero M e) 1
  rw [← mul_mul'] at h
  refine base_mul M hb _ ?_ h
  intro hd
  rcases prL.dvd_mul hd with k | k
  · exact hn k
  · exact absurd k (by decide +kernel)
theorem pair_ne (k j : Nat) (hk : k < 2 ^ 255) (hj : j < 2 ^ 255) (nk : ¬ L ∣ k) (nj : ¬ L ∣ j) : gx k 9 ≠ 0 ∧ gx j (gx k 9) ≠ 0 := by
  obtain ⟨D, s, M, b, hb⟩ := exists_pt nine_ne
  have h1 : gx k 9 ≠ 0 := by rw [gx_spec M hb nine_ne k hk]; exact base_u M hb k nk
  refine ⟨h1, ?_⟩
  rw [gx_gx M hb nine_ne k j hk hj h1]
  exact base_u M hb _ (fun hd => (prL.dvd_mul hd).elim nk nj)
end Go.Proofs.YtgclegdgngldoaaDoor.Fp
