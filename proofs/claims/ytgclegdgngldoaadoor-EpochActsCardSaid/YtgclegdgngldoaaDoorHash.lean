/-
  A hash as an object: what was written to it so far; own work.
-/
import Derived.Test.YtgclegdgngldoaaDoorSha4
import Derived.Test.YtgclegdgngldoaaDoorEqK
import Derived.Stop.BytesEq
set_option linter.unusedSimpArgs false
set_option linter.unusedVariables false
namespace Go.Proofs.YtgclegdgngldoaaDoor
open Go.RowKit

/-- the hash in block b has taken l; its rest lies in rv -/
def HS (w : World) (b : Nat) (l : List (BitVec 8)) (rv : Value) : Prop := ∃ s rest, HR w b s rest l.length rv ∧ Sh.absorb Sh.init l = (s, rest)
section
variable {w w' : World} {b : Nat} {l : List (BitVec 8)} {rv : Value}
theorem OB.fr {S : Nat → Prop} {base : Nat} {v : Value} (h : OB w base v l) (hf : Fr S w w') (hn : ∀ g, v.ownBlock = some g → ¬ S g) : OB w' base v l := by
  refine ⟨h.1, ?_⟩
  rcases h.2 with h1 | ⟨g, cap, cur, hv, hb, hg, r⟩
  · exact .inl h1
  · exact .inr ⟨g, cap, cur, hv, hb, (hf.block g (Array.getElem?_eq_some_iff.1 hg).1 (hn g (by rw [hv]; rfl))).trans hg, r⟩
theorem SV.fr {S : Nat → Prop} {v : Value} {n : Nat} {xs : List Value} (h : SV w v n xs) (hf : Fr S w w') (hn : ∀ g, v.ownBlock = some g → ¬ S g) : SV w' v n xs :=
  h.keep fun g hg hl => hf.block g hl (hn g hg)
theorem HS.lt (h : HS w b l rv) : b < w.heap.size := by obtain ⟨s, r, h, _⟩ := h; exact free_lt h.1
theorem HS.rvge (h : HS w b l rv) (g : Nat) (hg : rv.ownBlock = some g) : b < g ∧ g < w.heap.size := by
  obtain ⟨s, r, ⟨_, _, h⟩, _⟩ := h
  rcases h.2 with ⟨h1, _⟩ | ⟨g', cap, cur, hv, hb, hg', _⟩
  · subst h1; cases hg
  · subst hv; cases hg; exact ⟨hb, (Array.getElem?_eq_some_iff.1 hg').1⟩
theorem HS.fr {S : Nat → Prop} (h : HS w b l rv) (hf : Fr S w w') (hb : ¬ S b) (hn : ∀ g, rv.ownBlock = some g → ¬ S g) : HS w' b l rv := by
  have hl := h.lt
  obtain ⟨s, r, ⟨h1, h2, h3⟩, h4⟩ := h
  exact ⟨s, r, ⟨(hf.free hl hb).trans h1, (hf.row hl hb).trans h2, h3.fr hf hn⟩, h4⟩
theorem HS.below (h : HS w b l rv) (hf : Below w.heap.size w w') : HS w' b l rv :=
  h.fr (S := fun k => w.heap.size ≤ k) (Fr.of_below' hf) (by have := h.lt; omega) (fun g hg => by have := h.rvge g hg; omega)
theorem KT.fr {S : Nat → Prop} (h : KT w) (h0 : 0 < w.heap.size) (hf : Fr S w w') (hn : ¬ S 0) : KT w' := (hf.row h0 hn).trans h
theorem KT.below {B : Nat} (h : KT w) (hf : Below B w w') (h0 : 0 < B) : KT w' := (below_row hf h0).trans h
theorem newS (w : World) :
    Calls Tryd.prog 86 #[] w fun e w' => ∃ b, e = .returned (.pointer (some ⟨b, 0, none⟩)) ∧ w.heap.size ≤ b ∧ HS w' b [] (.slice none 0 0) ∧ Below w.heap.size w w' :=
  (new_any w).mono fun e w' ⟨b, h1, h2, h3, h4, h5⟩ => ⟨b, h1, h2, ⟨_, _, h4, Sh.absorb_lt (by decide)⟩, h5⟩
theorem writeS (v : Value) (m : List (BitVec 8)) (hK : KT w) (hb0 : 0 < b) (h : HS w b l rv) (hv : BS w v m) (hsep : m = [] ∨ v.ownBlock ≠ some b) (hn : l.length + m.length ≤ 1073741824) :
    Calls Tryd.prog 87 #[.pointer (some ⟨b, 0, none⟩), v] w fun e w' => e = .returned (.int .i64 0) ∧ ∃ rv', HS w' b (l ++ m) rv' ∧
      Fr (fun k => k = b ∨ some k = rv.ownBlock) w w' ∧ (∀ g, rv'.ownBlock = some g → w.heap.size ≤ g) := by
  obtain ⟨s, r, h1, h2⟩ := h
  have hr : r.length < 64 := by have := (Sh.absorb_rest Sh.init l).1; rw [h2] at this; exact this
  refine (write_any w b s r m l.length rv v hK hb0 h1 hv hsep hn hr).mono ?_
  rintro e w' ⟨rfl, rv', k1, k2, k3⟩
  refine ⟨rfl, rv', ⟨_, _, by rw [List.length_append]; exact k1, ?_⟩, k2, k3⟩
  rw [Sh.absorb_append, h2]
theorem sumS (hK : KT w) (hb0 : 0 < b) (h : HS w b l rv) (hn : l.length ≤ 1073741824) :
    Calls Tryd.prog 89 #[.pointer (some ⟨b, 0, none⟩)] w fun e w' => e = .returned (.agg (cs U8 (Sh.sum l))) ∧ Below w.heap.size w w' := by
  obtain ⟨s, r, h1, h2⟩ := h
  have hr : r.length < 64 := by have := (Sh.absorb_rest Sh.init l).1; rw [h2] at this; exact this
  refine (sumh_any w b s r l.length rv hK hb0 h1 hn hr).mono ?_
  rintro e w' ⟨rfl, k⟩
  refine ⟨?_, k⟩
  have := Sh.digest_absorb l l.length
  rw [h2] at this
  rw [this]; rfl
end
theorem sum_len (l : List (BitVec 8)) : (Sh.sum l).length = 32 := rfl
attribute [go_sem] eqin_key sum_len
/-! a word against a constant -/
section
variable {t : TypeId} (n : Int)
@[go_sem ↓] theorem c_eql_8 (x : BitVec 8) : binOp .eql t (U8 x) (.int .u8 n) = pure (.bool ((x.toNat : Int) == n)) := rfl
@[go_sem ↓] theorem c_neq_8 (x : BitVec 8) : binOp .neq t (U8 x) (.int .u8 n) = pure (.bool ((x.toNat : Int) != n)) := rfl
@[go_sem ↓] theorem c_eql_64 (x : BitVec 64) : binOp .eql t (U64 x) (.int .u64 n) = pure (.bool ((x.toNat : Int) == n)) := rfl
@[go_sem ↓] theorem c_neq_64 (x : BitVec 64) : binOp .neq t (U64 x) (.int .u64 n) = pure (.bool ((x.toNat : Int) != n)) := rfl
end
end Go.Proofs.YtgclegdgngldoaaDoor
