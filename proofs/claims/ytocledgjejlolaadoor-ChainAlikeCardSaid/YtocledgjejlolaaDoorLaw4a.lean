/-
  Law 04: the package is alive; own work.
-/
import Derived.Test.YtocledgjejlolaaDoorHmac5
import Derived.Test.YtocledgjejlolaaDoorEval
import Derived.Test.YtocledgjejlolaaDoorFlow
set_option linter.unusedSimpArgs false
set_option linter.unusedVariables false
namespace Go.Proofs.YtocledgjejlolaaDoor
open Go.RowKit

@[go_sem] theorem conv_lit_at (w : World) (C : Array Value) (n c g : Nat) (hg : g = w.heap.size) :
    (convert 22 22 (.slice (some ⟨g, 0, none⟩) n c)).run Tryd.prog (w.alloc (.cells C 5)) = .ok (.slice (some ⟨g, 0, none⟩) n c) (w.alloc (.cells C 5 (C.size, C.size + 1))) := by
  subst hg; exact conv_lit w C n c
theorem deriveD {w : World} {l D : List (BitVec 8)} {lab : ByteArray} (m : List (BitVec 8)) (hm : Bs m = lab) (hD : D = Sh.derive l m) (hT : KT w) (hk0 : 0 < w.heap.size) (hl : l.length = 32) (hil : m.length ≤ 1073700000) :
    Calls Tryd.prog 28 #[.agg (cs U8 l), .string lab] w fun e w' => e = .returned (.agg (cs U8 D)) ∧ Below w.heap.size w w' := by
  rw [hD, ← hm]; exact derive_any w l m hT hk0 hl hil
def whatL : List (BitVec 8) := [119, 104, 97, 116, 32, 100, 111, 32, 121, 97, 32, 119, 97, 110, 116, 32, 102, 111, 114, 32, 110, 111, 116, 104, 105, 110, 103, 63]
set_option maxRecDepth 100000 in
set_option maxHeartbeats 4000000 in
theorem alive4_any (w : World) (hT : KT w) (hk0 : 0 < w.heap.size) :
    Calls Tryd.prog 25 #[] w fun e w' => e = .returned (.bool true) ∧ Below w.heap.size w w' := by
  obtain ⟨k, hk⟩ : ∃ k, k = Sh.K0 := ⟨_, rfl⟩
  have hkl : k.length = 32 := by rw [hk]; rfl
  have hk0' : k.getD 0 0 = 91 := by rw [hk]; rfl
  have hk31 : k.getD 31 0 = 67 := by rw [hk]; rfl
  have hmac : k = Sh.mac [74, 101, 102, 101] whatL := by rw [hk]; exact Sh.jefe.symm
  obtain ⟨Da, hDa⟩ : ∃ D, D = Sh.derive k [97] := ⟨_, rfl⟩
  obtain ⟨Db, hDb⟩ : ∃ D, D = Sh.derive k [98] := ⟨_, rfl⟩
  have hDne : Da ≠ Db := by rw [hDa, hDb, hk]; exact Sh.der_ne
  have hDal : Da.length = 32 := by rw [hDa]; exact derive_len ..
  have hDbl : Db.length = 32 := by rw [hDb]; exact derive_len ..
  obtain ⟨wl, hwl⟩ : ∃ wl, wl = (w.alloc (.cells #[.int .u8 74, .int .u8 101, .int .u8 102, .int .u8 101] 5 (4, 5))).alloc (.cells #[.int .u8 119, .int .u8 104, .int .u8 97, .int .u8 116, .int .u8 32, .int .u8 100, .int .u8 111, .int .u8 32, .int .u8 121, .int .u8 97, .int .u8 32, .int .u8 119, .int .u8 97, .int .u8 110, .int .u8 116, .int .u8 32, .int .u8 102, .int .u8 111, .int .u8 114, .int .u8 32, .int .u8 110, .int .u8 111, .int .u8 116, .int .u8 104, .int .u8 105, .int .u8 110, .int .u8 103, .int .u8 63] 5 (28, 29)) := ⟨_, rfl⟩
  have hbl : Below w.heap.size w wl := by rw [hwl]; exact ((Below.refl _ _).alloc (Nat.le_refl _) _).alloc (by simp) _
  have hsl : wl.heap.size = w.heap.size + 2 := by rw [hwl]; simp
  have hb1 : BS wl (.slice (some ⟨w.heap.size, 0, none⟩) 4 4) [74, 101, 102, 101] := by rw [hwl]; exact SV.alloc (BS.litf w [74, 101, 102, 101] #[.int .u8 74, .int .u8 101, .int .u8 102, .int .u8 101] rfl 4 rfl (by decide) _ _) _
  have hb2 : BS wl (.slice (some ⟨w.heap.size + 1, 0, none⟩) 28 28) whatL := by
    have h := BS.litf (w.alloc (.cells #[.int .u8 74, .int .u8 101, .int .u8 102, .int .u8 101] 5 (4, 5))) whatL #[.int .u8 119, .int .u8 104, .int .u8 97, .int .u8 116, .int .u8 32, .int .u8 100, .int .u8 111, .int .u8 32, .int .u8 121, .int .u8 97, .int .u8 32, .int .u8 119, .int .u8 97, .int .u8 110, .int .u8 116, .int .u8 32, .int .u8 102, .int .u8 111, .int .u8 114, .int .u8 32, .int .u8 110, .int .u8 111, .int .u8 116, .int .u8 104, .int .u8 105, .int .u8 110, .int .u8 103, .int .u8 63] rfl 28 rfl (by decide) 5 (28, 29)
    rw [hwl]; simpa using h
  have HC := hid (macD (w := wl) hmac (hT.below hbl hk0) (by omega) hb1 hb2 (by decide) (by decide))
  have HWL := hid hwl
  clear hk hmac hb1 hb2 hwl
  go_enter Tryd.func25, Tryd.ntmps25
  go_wp2_with fail
  rw [← HWL.out]
  with_reducible refine HC.out.mono ?_
  rintro e w1 ⟨rfl, hb1⟩
  have hz1 := hb1.size
  dsimp only
  go_wp2_with fail
  have hc2 : Below w1.heap.size w1 (w1.alloc (.cells (cs U8 k) 25)) := (Below.refl _ _).alloc (Nat.le_refl _) _
  have hr2 : (w1.alloc (.cells (cs U8 k) 25)).rowOf w1.heap.size = cs U8 k := rowOf_alloc_at _ _ _ rfl
  have hs2 : (w1.alloc (.cells (cs U8 k) 25)).heap.size = w1.heap.size + 1 := by simp
  obtain ⟨w2, hw2⟩ : ∃ w2, w2 = w1.alloc (.cells (cs U8 k) 25) := ⟨_, rfl⟩
  rw [← hw2] at hc2 hr2 hs2
  rw [← hw2]
  have hb02 : Below w.heap.size w w2 := (hbl.trans (hb1.mono (by omega))).trans (hc2.mono (by omega))
  clear hw2
  with_reducible refine (expand_c 40 40 rfl w2 k [] _ (hT.below hb02 hk0) (by omega) hkl (OB.nil _ w2.heap.size).bs (by decide) (by decide)).mono ?_
  rintro e w3 ⟨u2, rfl, hu2, hb3⟩
  obtain ⟨a2, c2, rfl, -⟩ := hu2.shape' 40 (expand_len _ _ _)
  have hz3 := hb3.size
  have hr3 : w3.rowOf w1.heap.size = cs U8 k := (below_row hb3 (by omega)).trans hr2
  have hb03 : Below w.heap.size w w3 := hb02.trans (hb3.mono (by omega))
  have HR : Hid (∀ wc, Below w3.heap.size w3 wc → wc.rowOf w1.heap.size = cs U8 k) := hid fun wc h => (below_row h (by omega)).trans hr3
  have HC0 : Hid (∀ wc, Below w3.heap.size w3 wc → wc.cell? ⟨w1.heap.size, 0, none⟩ = some (U8 91)) := hid fun wc h => by
    rw [← hk0']; exact row_cell (HR.out wc h) 0 (by omega)
  have HC31 : Hid (∀ wc, Below w3.heap.size w3 wc → wc.cell? ⟨w1.heap.size, 31, none⟩ = some (U8 67)) := hid fun wc h => by
    rw [← hk31]; exact row_cell (HR.out wc h) 31 (by omega)
  have HDA : Hid (∀ wc, Below w3.heap.size w3 wc → Calls Tryd.prog 28 #[.agg (cs U8 k), .string ⟨#[97]⟩] wc fun e w' => e = .returned (.agg (cs U8 Da)) ∧ Below wc.heap.size wc w') := hid fun wc h =>
    deriveD [97] rfl hDa (hT.below (hb03.trans (h.mono (by omega))) hk0) (by have := h.size; omega) hkl (by decide)
  have HDB : Hid (∀ wc, Below w3.heap.size w3 wc → Calls Tryd.prog 28 #[.agg (cs U8 k), .string ⟨#[98]⟩] wc fun e w' => e = .returned (.agg (cs U8 Db)) ∧ Below wc.heap.size wc w') := hid fun wc h =>
    deriveD [98] rfl hDb (hT.below (hb03.trans (h.mono (by omega))) hk0) (by have := h.size; omega) hkl (by decide)
  have HSH : Hid (∀ wc, Below w3.heap.size w3 wc → Calls Tryd.prog 31 #[.agg (cs U8 k)] wc fun e w' => e = .returned (.agg (cs U8 (k.take 16))) ∧ Below wc.heap.size wc w') := hid fun wc h => short_any wc k hkl
  have HI0 : Hid (∀ wc, (Instr.index 52 (.agg (cs U8 (k.take 16))) (.int .i64 0)).run Tryd.prog wc = .ok (U8 91) wc) := hid fun wc => by
    have h := idx_arr 52 16 Tryd.underlying52 wc (k.take 16) 0 (by decide) (by simp; omega)
    have e : (k.take 16).getD 0 0 = 91 := by rw [← hk0', List.getD_eq_getElem?_getD, List.getElem?_take_of_lt (by decide), List.getD_eq_getElem?_getD]
    rw [e] at h; exact h
  have HNE := hid hDne; have HDAL := hid hDal; have HDBL := hid hDbl; have HKL := hid hkl
  clear hDne hDal hDbl hkl hk0' hk31 hDa hDb hr2 hr3 hu2 hc2 hb1 hbl hb02
  dsimp only
  go_wp2_with fail
  refine wp_region_flow 45 (14 :: 15 :: 16 :: 17 :: 18 :: 19 :: 20 :: 21 :: 22 :: 23 :: 24 :: 25 :: 26 :: 27 :: 28 :: 29 :: 30 :: 31 :: 32 :: 33 :: 34 :: 35 :: 36 :: 37 :: 38 :: 39 :: 40 :: 41 :: 42 :: 43 :: 44 :: 45 :: 46 :: 47 :: 48 :: 49 :: 50 :: 51 :: 52 :: 53 :: 54 :: 55 :: 56 :: 57 :: 58 :: []) (Sp.eq (.pointer (some ⟨w1.heap.size, 0, none⟩)) :: Sp.eq (U8 91) :: Sp.eq (.bool true) :: Sp.eq (.bool true) :: Sp.eq (.pointer (some ⟨w1.heap.size, 31, none⟩)) :: Sp.eq (U8 67) :: Sp.eq (.bool true) :: Sp.eq (.bool true) :: Sp.eq (.bool true) :: Sp.eq (.int .i64 0) :: Sp.eq (.bool true) :: Sp.eq (.bool true) :: Sp.eq (.bool true) :: Sp.eq (.slice a2 40 c2) :: Sp.eq (.int .i64 40) :: Sp.eq (.bool true) :: Sp.eq (.bool true) :: Sp.eq (.bool true) :: Sp.eq (.agg (cs U8 k)) :: Sp.eq (.agg (cs U8 Da)) :: Sp.eq (.agg (cs U8 k)) :: Sp.eq (.agg (cs U8 Db)) :: Sp.eq (.bool true) :: Sp.eq (.bool true) :: Sp.eq (.bool true) :: Sp.lit w3.heap.size [97, 98] :: Sp.bs [97, 98] :: Sp.lit w3.heap.size [97, 98] :: Sp.bs [97, 98] :: Sp.eq (.bool true) :: Sp.eq (.bool true) :: Sp.eq (.bool true) :: Sp.lit w3.heap.size [97, 98] :: Sp.bs [97, 98] :: Sp.lit w3.heap.size [97, 97] :: Sp.bs [97, 97] :: Sp.eq (.bool false) :: Sp.eq (.bool true) :: Sp.eq (.bool true) :: Sp.eq (.bool true) :: Sp.eq (.agg (cs U8 k)) :: Sp.eq (.agg (cs U8 (k.take 16))) :: Sp.eq (U8 91) :: Sp.eq (.bool true) :: Sp.eq (.bool true) :: []) (.op 45 .done) (by kernel_rfl) (by kernel_rfl) (by kernel_rfl) (by rfl) ?_ ?_
  · refine ⟨stepF_mk trivial (fun ρ f w' hc hfn hgl hi ho hb hd => ?_), stepF_mk trivial (fun ρ f w' hc hfn hgl hi ho hb hd => ?_), stepF_mk trivial (fun ρ f w' hc hfn hgl hi ho hb hd => ?_), stepF_mk trivial (fun ρ f w' hc hfn hgl hi ho hb hd => ?_), stepF_mk (fun _ _ h => h) (fun ρ f w' hc hfn hgl hi ho hb hd => ?_), stepF_mk (fun _ _ h => h) (fun ρ f w' hc hfn hgl hi ho hb hd => ?_), stepF_mk (fun _ _ h => h) (fun ρ f w' hc hfn hgl hi ho hb hd => ?_), stepF_mk trivial (fun ρ f w' hc hfn hgl hi ho hb hd => ?_), stepF_mk trivial (fun ρ f w' hc hfn hgl hi ho hb hd => ?_), stepF_mk (fun _ _ h => h) (fun ρ f w' hc hfn hgl hi ho hb hd => ?_), stepF_mk (fun _ _ h => h) (fun ρ f w' hc hfn hgl hi ho hb hd => ?_), stepF_mk trivial (fun ρ f w' hc hfn hgl hi ho hb hd => ?_), stepF_mk trivial (fun ρ f w' hc hfn hgl hi ho hb hd => ?_), stepF_mk (fun _ _ h => h) (fun ρ f w' hc hfn hgl hi ho hb hd => ?_), stepF_mk (fun _ _ h => h) (fun ρ f w' hc hfn hgl hi ho hb hd => ?_), stepF_mk (fun _ _ h => h) (fun ρ f w' hc hfn hgl hi ho hb hd => ?_), stepF_mk trivial (fun ρ f w' hc hfn hgl hi ho hb hd => ?_), stepF_mk trivial (fun ρ f w' hc hfn hgl hi ho hb hd => ?_), stepF_mk (fun _ _ h => h) (fun ρ f w' hc hfn hgl hi ho hb hd => ?_), stepF_mk (fun _ _ h => h) (fun ρ f w' hc hfn hgl hi ho hb hd => ?_), stepF_mk (fun _ _ h => h) (fun ρ f w' hc hfn hgl hi ho hb hd => ?_), stepF_mk (fun _ _ h => h) (fun ρ f w' hc hfn hgl hi ho hb hd => ?_), stepF_mk (fun _ _ h => h) (fun ρ f w' hc hfn hgl hi ho hb hd => ?_), stepF_mk trivial (fun ρ f w' hc hfn hgl hi ho hb hd => ?_), stepF_mk trivial (fun ρ f w' hc hfn hgl hi ho hb hd => ?_), stepF_mk (fun _ _ h => h) (fun ρ f w' hc hfn hgl hi ho hb hd => ?_), stepF_mk (fun _ _ h => h) (fun ρ f w' hc hfn hgl hi ho hb hd => ?_), stepF_mk (fun _ _ h => h) (fun ρ f w' hc hfn hgl hi ho hb hd => ?_), stepF_mk (fun _ _ h => h) (fun ρ f w' hc hfn hgl hi ho hb hd => ?_), stepF_mk (fun _ _ h => h) (fun ρ f w' hc hfn hgl hi ho hb hd => ?_), stepF_mk trivial (fun ρ f w' hc hfn hgl hi ho hb hd => ?_), stepF_mk trivial (fun ρ f w' hc hfn hgl hi ho hb hd => ?_), stepF_mk (fun _ _ h => h) (fun ρ f w' hc hfn hgl hi ho hb hd => ?_), stepF_mk (fun _ _ h => h) (fun ρ f w' hc hfn hgl hi ho hb hd => ?_), stepF_mk (fun _ _ h => h) (fun ρ f w' hc hfn hgl hi ho hb hd => ?_), stepF_mk (fun _ _ h => h) (fun ρ f w' hc hfn hgl hi ho hb hd => ?_), stepF_mk (fun _ _ h => h) (fun ρ f w' hc hfn hgl hi ho hb hd => ?_), stepF_mk (fun _ _ h => h) (fun ρ f w' hc hfn hgl hi ho hb hd => ?_), stepF_mk trivial (fun ρ f w' hc hfn hgl hi ho hb hd => ?_), stepF_mk trivial (fun ρ f w' hc hfn hgl hi ho hb hd => ?_), stepF_mk (fun _ _ h => h) (fun ρ f w' hc hfn hgl hi ho hb hd => ?_), stepF_mk (fun _ _ h => h) (fun ρ f w' hc hfn hgl hi ho hb hd => ?_), stepF_mk (fun _ _ h => h) (fun ρ f w' hc hfn hgl hi ho hb hd => ?_), stepF_mk (fun _ _ h => h) (fun ρ f w' hc hfn hgl hi ho hb hd => ?_), stepF_mk trivial (fun ρ f w' hc hfn hgl hi ho hb hd => ?_), trivial⟩
    · -- 0: slot 14 := Op.indexAddr 25 (Operand.tmp 1) (Operand.const (Value.int IntKind.i64 0))
      obtain ⟨-⟩ : True := hd
      have e1 : ρ (.tmp 1) = .pointer (some ⟨w1.heap.size, 0, none⟩) := ho 1 (by decide)
      exact Gives.pure (.pointer (some ⟨w1.heap.size, 0, none⟩)) (by go_simp) ⟨soft_refl _, hb, rfl, fun h => nomatch h⟩
    · -- 1: slot 15 := Op.load 5 (Operand.tmp 14)
      obtain ⟨h14, -⟩ : (f 14 = .pointer (some ⟨w1.heap.size, 0, none⟩)) ∧ True := hd
      have e14 : ρ (.tmp 14) = .pointer (some ⟨w1.heap.size, 0, none⟩) := (hi 14 (by decide)).trans h14
      have c0 := HC0.out w' hb
      exact Gives.pure (U8 91) (by go_simp) ⟨soft_refl _, hb, rfl, fun h => nomatch h⟩
    · -- 2: slot 16 := Op.binOp BinOp.eql 5 (Operand.tmp 15) (Operand.const (Value.int IntKind.u8 91)) 5
      obtain ⟨h15, -⟩ : (f 15 = U8 91) ∧ True := hd
      have e15 : ρ (.tmp 15) = U8 91 := (hi 15 (by decide)).trans h15
      exact Gives.pure (.bool true) (by go_simp) ⟨soft_refl _, hb, rfl, fun h => nomatch h⟩
    · -- 3: slot 17 := Op.move (Operand.tmp 16)
      obtain ⟨h16, -⟩ : (f 16 = .bool true) ∧ True := hd
      have e16 : ρ (.tmp 16) = .bool true := (hi 16 (by decide)).trans h16
      exact Gives.pure (.bool true) (by go_simp) ⟨soft_refl _, hb, rfl, fun h => nomatch h⟩
    · -- 4: slot 18 := Op.indexAddr 25 (Operand.tmp 1) (Operand.const (Value.int IntKind.i64 31))
      obtain ⟨-, -⟩ : (f 17 = .bool true) ∧ True := hd
      have e1 : ρ (.tmp 1) = .pointer (some ⟨w1.heap.size, 0, none⟩) := ho 1 (by decide)
      exact Gives.pure (.pointer (some ⟨w1.heap.size, 31, none⟩)) (by go_simp) ⟨soft_refl _, hb, rfl, fun h => nomatch h⟩
    · -- 5: slot 19 := Op.load 5 (Operand.tmp 18)
      obtain ⟨h18, -, -⟩ : (f 18 = .pointer (some ⟨w1.heap.size, 31, none⟩)) ∧ (f 17 = .bool true) ∧ True := hd
      have e18 : ρ (.tmp 18) = .pointer (some ⟨w1.heap.size, 31, none⟩) := (hi 18 (by decide)).trans h18
      have c31 := HC31.out w' hb
      exact Gives.pure (U8 67) (by go_simp) ⟨soft_refl _, hb, rfl, fun h => nomatch h⟩
    · -- 6: slot 20 := Op.binOp BinOp.eql 5 (Operand.tmp 19) (Operand.const (Value.int IntKind.u8 67)) 5
      obtain ⟨h19, -, -⟩ : (f 19 = U8 67) ∧ (f 17 = .bool true) ∧ True := hd
      have e19 : ρ (.tmp 19) = U8 67 := (hi 19 (by decide)).trans h19
      exact Gives.pure (.bool true) (by go_simp) ⟨soft_refl _, hb, rfl, fun h => nomatch h⟩
    · -- 7: slot 21 := Op.pick (Operand.tmp 17) (Operand.tmp 20) (Operand.const (Value.bool false))
      obtain ⟨h17, h20, -⟩ : (f 17 = .bool true) ∧ (f 20 = .bool true) ∧ True := hd
      have e17 : ρ (.tmp 17) = .bool true := (hi 17 (by decide)).trans h17
      have e20 : ρ (.tmp 20) = .bool true := (hi 20 (by decide)).trans h20
      exact Gives.pure (.bool true) (by go_simp) ⟨soft_refl _, hb, rfl, fun h => nomatch h⟩
    · -- 8: slot 22 := Op.move (Operand.tmp 21)
      obtain ⟨h21, -, -⟩ : (f 21 = .bool true) ∧ (f 17 = .bool true) ∧ True := hd
      have e21 : ρ (.tmp 21) = .bool true := (hi 21 (by decide)).trans h21
      exact Gives.pure (.bool true) (by go_simp) ⟨soft_refl _, hb, rfl, fun h => nomatch h⟩
    · -- 9: slot 23 := Op.move (Operand.tmp 3)
      obtain ⟨-, -⟩ : (f 22 = .bool true) ∧ True := hd
      have e3 : ρ (.tmp 3) = .int .i64 0 := ho 3 (by decide)
      exact Gives.pure (.int .i64 0) (by go_simp) ⟨soft_refl _, hb, rfl, fun h => nomatch h⟩
    · -- 10: slot 24 := Op.binOp BinOp.eql 31 (Operand.tmp 23) (Operand.const (Value.int IntKind.i64 0)) 31
      obtain ⟨h23, -, -⟩ : (f 23 = .int .i64 0) ∧ (f 22 = .bool true) ∧ True := hd
      have e23 : ρ (.tmp 23) = .int .i64 0 := (hi 23 (by decide)).trans h23
      exact Gives.pure (.bool true) (by go_simp) ⟨soft_refl _, hb, rfl, fun h => nomatch h⟩
    · -- 11: slot 25 := Op.pick (Operand.tmp 22) (Operand.tmp 24) (Operand.const (Value.bool false))
      obtain ⟨h22, h24, -⟩ : (f 22 = .bool true) ∧ (f 24 = .bool true) ∧ True := hd
      have e22 : ρ (.tmp 22) = .bool true := (hi 22 (by decide)).trans h22
      have e24 : ρ (.tmp 24) = .bool true := (hi 24 (by decide)).trans h24
      exact Gives.pure (.bool true) (by go_simp) ⟨soft_refl _, hb, rfl, fun h => nomatch h⟩
    · -- 12: slot 26 := Op.move (Operand.tmp 25)
      obtain ⟨h25, -, -⟩ : (f 25 = .bool true) ∧ (f 22 = .bool true) ∧ True := hd
      have e25 : ρ (.tmp 25) = .bool true := (hi 25 (by decide)).trans h25
      exact Gives.pure (.bool true) (by go_simp) ⟨soft_refl _, hb, rfl, fun h => nomatch h⟩
    · -- 13: slot 27 := Op.move (Operand.tmp 2)
      obtain ⟨-, -⟩ : (f 26 = .bool true) ∧ True := hd
      have e2 : ρ (.tmp 2) = .slice a2 40 c2 := ho 2 (by decide)
      exact Gives.pure (.slice a2 40 c2) (by go_simp) ⟨soft_refl _, hb, rfl, fun h => nomatch h⟩
    · -- 14: slot 28 := Op.call { callee := Callee.builtin Builtin.len, args := #[Operand.tmp 27], argTypes := #[22] }
      obtain ⟨h27, -, -⟩ : (f 27 = .slice a2 40 c2) ∧ (f 26 = .bool true) ∧ True := hd
      have e27 : ρ (.tmp 27) = .slice a2 40 c2 := (hi 27 (by decide)).trans h27
      exact Gives.pure (.int .i64 40) (by go_simp) ⟨soft_refl _, hb, rfl, fun h => nomatch h⟩
    · -- 15: slot 29 := Op.binOp BinOp.eql 3 (Operand.tmp 28) (Operand.const (Value.int IntKind.i64 40)) 3
      obtain ⟨h28, -, -⟩ : (f 28 = .int .i64 40) ∧ (f 26 = .bool true) ∧ True := hd
      have e28 : ρ (.tmp 28) = .int .i64 40 := (hi 28 (by decide)).trans h28
      exact Gives.pure (.bool true) (by go_simp) ⟨soft_refl _, hb, rfl, fun h => nomatch h⟩
    · -- 16: slot 30 := Op.pick (Operand.tmp 26) (Operand.tmp 29) (Operand.const (Value.bool false))
      obtain ⟨h26, h29, -⟩ : (f 26 = .bool true) ∧ (f 29 = .bool true) ∧ True := hd
      have e26 : ρ (.tmp 26) = .bool true := (hi 26 (by decide)).trans h26
      have e29 : ρ (.tmp 29) = .bool true := (hi 29 (by decide)).trans h29
      exact Gives.pure (.bool true) (by go_simp) ⟨soft_refl _, hb, rfl, fun h => nomatch h⟩
    · -- 17: slot 31 := Op.move (Operand.tmp 30)
      obtain ⟨h30, -, -⟩ : (f 30 = .bool true) ∧ (f 26 = .bool true) ∧ True := hd
      have e30 : ρ (.tmp 30) = .bool true := (hi 30 (by decide)).trans h30
      exact Gives.pure (.bool true) (by go_simp) ⟨soft_refl _, hb, rfl, fun h => nomatch h⟩
    · -- 18: slot 32 := Op.load 25 (Operand.tmp 1)
      obtain ⟨-, -⟩ : (f 31 = .bool true) ∧ True := hd
      have e1 : ρ (.tmp 1) = .pointer (some ⟨w1.heap.size, 0, none⟩) := ho 1 (by decide)
      have r0 := HR.out w' hb
      have hkl := HKL.out
      exact Gives.pure (.agg (cs U8 k)) (by go_simp) ⟨soft_refl _, hb, rfl, fun h => nomatch h⟩
    · -- 19: slot 33 := Op.call { callee := Callee.value (Operand.func 28), args := #[Operand.tmp 32, Operand.const (Value.s
      obtain ⟨h32, -, -, -⟩ : (f 32 = .agg (cs U8 k)) ∧ (f 31 = .bool true) ∧ (f 31 = .bool true) ∧ True := hd
      have e32 : ρ (.tmp 32) = .agg (cs U8 k) := (hi 32 (by decide)).trans h32
      have e0 := hfn
      refine Gives.call _ _ (by go_simp) ((HDA.out w' hb).mono ?_)
      rintro e w'' ⟨rfl, hb2⟩
      exact ⟨_, rfl, .of hb2, hb.trans (hb2.mono hb.size), rfl, fun h => nomatch h⟩
    · -- 20: slot 34 := Op.load 25 (Operand.tmp 1)
      obtain ⟨-, -⟩ : (f 31 = .bool true) ∧ True := hd
      have e1 : ρ (.tmp 1) = .pointer (some ⟨w1.heap.size, 0, none⟩) := ho 1 (by decide)
      have r0 := HR.out w' hb
      have hkl := HKL.out
      exact Gives.pure (.agg (cs U8 k)) (by go_simp) ⟨soft_refl _, hb, rfl, fun h => nomatch h⟩
    · -- 21: slot 35 := Op.call { callee := Callee.value (Operand.func 28), args := #[Operand.tmp 34, Operand.const (Value.s
      obtain ⟨h34, -, -, -⟩ : (f 34 = .agg (cs U8 k)) ∧ (f 33 = .agg (cs U8 Da)) ∧ (f 31 = .bool true) ∧ True := hd
      have e34 : ρ (.tmp 34) = .agg (cs U8 k) := (hi 34 (by decide)).trans h34
      have e0 := hfn
      refine Gives.call _ _ (by go_simp) ((HDB.out w' hb).mono ?_)
      rintro e w'' ⟨rfl, hb2⟩
      exact ⟨_, rfl, .of hb2, hb.trans (hb2.mono hb.size), rfl, fun h => nomatch h⟩
    · -- 22: slot 36 := Op.binOp BinOp.neq 25 (Operand.tmp 33) (Operand.tmp 35) 25
      obtain ⟨h33, h35, -, -⟩ : (f 33 = .agg (cs U8 Da)) ∧ (f 35 = .agg (cs U8 Db)) ∧ (f 31 = .bool true) ∧ True := hd
      have e33 : ρ (.tmp 33) = .agg (cs U8 Da) := (hi 33 (by decide)).trans h33
      have e35 : ρ (.tmp 35) = .agg (cs U8 Db) := (hi 35 (by decide)).trans h35
      have n0 := HNE.out
      have n1 := HDAL.out
      have n2 := HDBL.out
      exact Gives.pure (.bool true) (by go_simp) ⟨soft_refl _, hb, rfl, fun h => nomatch h⟩
    · -- 23: slot 37 := Op.pick (Operand.tmp 31) (Operand.tmp 36) (Operand.const (Value.bool false))
      obtain ⟨h31, h36, -⟩ : (f 31 = .bool true) ∧ (f 36 = .bool true) ∧ True := hd
      have e31 : ρ (.tmp 31) = .bool true := (hi 31 (by decide)).trans h31
      have e36 : ρ (.tmp 36) = .bool true := (hi 36 (by decide)).trans h36
      exact Gives.pure (.bool true) (by go_simp) ⟨soft_refl _, hb, rfl, fun h => nomatch h⟩
    · -- 24: slot 38 := Op.move (Operand.tmp 37)
      obtain ⟨h37, -, -⟩ : (f 37 = .bool true) ∧ (f 35 = .agg (cs U8 Db)) ∧ True := hd
      have e37 : ρ (.tmp 37) = .bool true := (hi 37 (by decide)).trans h37
      exact Gives.pure (.bool true) (by go_simp) ⟨soft_refl _, hb, rfl, fun h => nomatch h⟩
    · -- 25: slot 39 := Op.buildSlice 22 2 #[(0, Operand.const (Value.int IntKind.u8 97)), (1, Operand.const (Value.int IntK
      obtain ⟨-, -⟩ : (f 38 = .bool true) ∧ True := hd
      exact lit_step 5 hb #[.int .u8 97, .int .u8 98] rfl 2 rfl (by go_simp)
    · -- 26: slot 40 := Op.convert 22 22 (Operand.tmp 39)
      obtain ⟨h39, -, -⟩ : ((Sp.lit w3.heap.size [97, 98]).p (f 39) w') ∧ (f 38 = .bool true) ∧ True := hd
      have e39 : ρ (.tmp 39) = f 39 := hi 39 (by decide)
      exact conv_step h39 hb (by decide) _ (by go_simp) (fun u w'' k1 k2 k3 => ⟨k1, k2, k3, fun h => nomatch h⟩)
    · -- 27: slot 41 := Op.buildSlice 22 2 #[(0, Operand.const (Value.int IntKind.u8 97)), (1, Operand.const (Value.int IntK
      obtain ⟨-, -⟩ : (f 38 = .bool true) ∧ True := hd
      exact lit_step 5 hb #[.int .u8 97, .int .u8 98] rfl 2 rfl (by go_simp)
    · -- 28: slot 42 := Op.convert 22 22 (Operand.tmp 41)
      obtain ⟨h41, -, -⟩ : ((Sp.lit w3.heap.size [97, 98]).p (f 41) w') ∧ (f 38 = .bool true) ∧ True := hd
      have e41 : ρ (.tmp 41) = f 41 := hi 41 (by decide)
      exact conv_step h41 hb (by decide) _ (by go_simp) (fun u w'' k1 k2 k3 => ⟨k1, k2, k3, fun h => nomatch h⟩)
    · -- 29: slot 43 := Op.call { callee := Callee.value (Operand.func 30), args := #[Operand.tmp 40, Operand.tmp 42], argTy
      obtain ⟨h40, h42, -, -, -⟩ : ((Sp.bs [97, 98]).p (f 40) w') ∧ ((Sp.bs [97, 98]).p (f 42) w') ∧ (f 38 = .bool true) ∧ (f 38 = .bool true) ∧ True := hd
      have e40 : ρ (.tmp 40) = f 40 := hi 40 (by decide)
      have e42 : ρ (.tmp 42) = f 42 := hi 42 (by decide)
      refine Gives.call _ _ (by go_simp) ((equal_any w' _ _ _ _ h40 h42).mono ?_)
      rintro e w'' ⟨rfl, hb2⟩
      exact ⟨_, rfl, .of hb2, hb.trans (hb2.mono hb.size), rfl, fun h => nomatch h⟩
    · -- 30: slot 44 := Op.pick (Operand.tmp 38) (Operand.tmp 43) (Operand.const (Value.bool false))
      obtain ⟨h38, h43, -⟩ : (f 38 = .bool true) ∧ (f 43 = .bool true) ∧ True := hd
      have e38 : ρ (.tmp 38) = .bool true := (hi 38 (by decide)).trans h38
      have e43 : ρ (.tmp 43) = .bool true := (hi 43 (by decide)).trans h43
      exact Gives.pure (.bool true) (by go_simp) ⟨soft_refl _, hb, rfl, fun h => nomatch h⟩
    · -- 31: slot 45 := Op.move (Operand.tmp 44)
      obtain ⟨h44, -, -⟩ : (f 44 = .bool true) ∧ (f 43 = .bool true) ∧ True := hd
      have e44 : ρ (.tmp 44) = .bool true := (hi 44 (by decide)).trans h44
      exact Gives.pure (.bool true) (by go_simp) ⟨soft_refl _, hb, rfl, fun h => nomatch h⟩
    · -- 32: slot 46 := Op.buildSlice 22 2 #[(0, Operand.const (Value.int IntKind.u8 97)), (1, Operand.const (Value.int IntK
      obtain ⟨-, -⟩ : (f 45 = .bool true) ∧ True := hd
      exact lit_step 5 hb #[.int .u8 97, .int .u8 98] rfl 2 rfl (by go_simp)
    · -- 33: slot 47 := Op.convert 22 22 (Operand.tmp 46)
      obtain ⟨h46, -, -⟩ : ((Sp.lit w3.heap.size [97, 98]).p (f 46) w') ∧ (f 45 = .bool true) ∧ True := hd
      have e46 : ρ (.tmp 46) = f 46 := hi 46 (by decide)
      exact conv_step h46 hb (by decide) _ (by go_simp) (fun u w'' k1 k2 k3 => ⟨k1, k2, k3, fun h => nomatch h⟩)
    · -- 34: slot 48 := Op.buildSlice 22 2 #[(0, Operand.const (Value.int IntKind.u8 97)), (1, Operand.const (Value.int IntK
      obtain ⟨-, -⟩ : (f 45 = .bool true) ∧ True := hd
      exact lit_step 5 hb #[.int .u8 97, .int .u8 97] rfl 2 rfl (by go_simp)
    · -- 35: slot 49 := Op.convert 22 22 (Operand.tmp 48)
      obtain ⟨h48, -, -⟩ : ((Sp.lit w3.heap.size [97, 97]).p (f 48) w') ∧ (f 45 = .bool true) ∧ True := hd
      have e48 : ρ (.tmp 48) = f 48 := hi 48 (by decide)
      exact conv_step h48 hb (by decide) _ (by go_simp) (fun u w'' k1 k2 k3 => ⟨k1, k2, k3, fun h => nomatch h⟩)
    · -- 36: slot 50 := Op.call { callee := Callee.value (Operand.func 30), args := #[Operand.tmp 47, Operand.tmp 49], argTy
      obtain ⟨h47, h49, -, -, -⟩ : ((Sp.bs [97, 98]).p (f 47) w') ∧ ((Sp.bs [97, 97]).p (f 49) w') ∧ (f 45 = .bool true) ∧ (f 45 = .bool true) ∧ True := hd
      have e47 : ρ (.tmp 47) = f 47 := hi 47 (by decide)
      have e49 : ρ (.tmp 49) = f 49 := hi 49 (by decide)
      refine Gives.call _ _ (by go_simp) ((equal_any w' _ _ _ _ h47 h49).mono ?_)
      rintro e w'' ⟨rfl, hb2⟩
      exact ⟨_, rfl, .of hb2, hb.trans (hb2.mono hb.size), rfl, fun h => nomatch h⟩
    · -- 37: slot 51 := Op.unOp UnOp.not 4 (Operand.tmp 50)
      obtain ⟨h50, -, -⟩ : (f 50 = .bool false) ∧ (f 45 = .bool true) ∧ True := hd
      have e50 : ρ (.tmp 50) = .bool false := (hi 50 (by decide)).trans h50
      exact Gives.pure (.bool true) (by go_simp) ⟨soft_refl _, hb, rfl, fun h => nomatch h⟩
    · -- 38: slot 52 := Op.pick (Operand.tmp 45) (Operand.tmp 51) (Operand.const (Value.bool false))
      obtain ⟨h45, h51, -⟩ : (f 45 = .bool true) ∧ (f 51 = .bool true) ∧ True := hd
      have e45 : ρ (.tmp 45) = .bool true := (hi 45 (by decide)).trans h45
      have e51 : ρ (.tmp 51) = .bool true := (hi 51 (by decide)).trans h51
      exact Gives.pure (.bool true) (by go_simp) ⟨soft_refl _, hb, rfl, fun h => nomatch h⟩
    · -- 39: slot 53 := Op.move (Operand.tmp 52)
      obtain ⟨h52, -, -⟩ : (f 52 = .bool true) ∧ (f 50 = .bool false) ∧ True := hd
      have e52 : ρ (.tmp 52) = .bool true := (hi 52 (by decide)).trans h52
      exact Gives.pure (.bool true) (by go_simp) ⟨soft_refl _, hb, rfl, fun h => nomatch h⟩
    · -- 40: slot 54 := Op.load 25 (Operand.tmp 1)
      obtain ⟨-, -⟩ : (f 53 = .bool true) ∧ True := hd
      have e1 : ρ (.tmp 1) = .pointer (some ⟨w1.heap.size, 0, none⟩) := ho 1 (by decide)
      have r0 := HR.out w' hb
      have hkl := HKL.out
      exact Gives.pure (.agg (cs U8 k)) (by go_simp) ⟨soft_refl _, hb, rfl, fun h => nomatch h⟩
    · -- 41: slot 55 := Op.call { callee := Callee.value (Operand.func 31), args := #[Operand.tmp 54], argTypes := #[25] }
      obtain ⟨h54, -, -, -⟩ : (f 54 = .agg (cs U8 k)) ∧ (f 53 = .bool true) ∧ (f 53 = .bool true) ∧ True := hd
      have e54 : ρ (.tmp 54) = .agg (cs U8 k) := (hi 54 (by decide)).trans h54
      have e0 := hfn
      refine Gives.call _ _ (by go_simp) ((HSH.out w' hb).mono ?_)
      rintro e w'' ⟨rfl, hb2⟩
      exact ⟨_, rfl, .of hb2, hb.trans (hb2.mono hb.size), rfl, fun h => nomatch h⟩
    · -- 42: slot 56 := Op.index 52 (Operand.tmp 55) (Operand.const (Value.int IntKind.i64 0))
      obtain ⟨h55, -, -⟩ : (f 55 = .agg (cs U8 (k.take 16))) ∧ (f 53 = .bool true) ∧ True := hd
      have e55 : ρ (.tmp 55) = .agg (cs U8 (k.take 16)) := (hi 55 (by decide)).trans h55
      have hi0 := HI0.out w'
      exact Gives.pure (U8 91) (by go_simp) ⟨soft_refl _, hb, rfl, fun h => nomatch h⟩
    · -- 43: slot 57 := Op.binOp BinOp.eql 5 (Operand.tmp 56) (Operand.const (Value.int IntKind.u8 91)) 5
      obtain ⟨h56, -, -⟩ : (f 56 = U8 91) ∧ (f 53 = .bool true) ∧ True := hd
      have e56 : ρ (.tmp 56) = U8 91 := (hi 56 (by decide)).trans h56
      exact Gives.pure (.bool true) (by go_simp) ⟨soft_refl _, hb, rfl, fun h => nomatch h⟩
    · -- 44: slot 58 := Op.pick (Operand.tmp 53) (Operand.tmp 57) (Operand.const (Value.bool false))
      obtain ⟨h53, h57, -⟩ : (f 53 = .bool true) ∧ (f 57 = .bool true) ∧ True := hd
      have e53 : ρ (.tmp 53) = .bool true := (hi 53 (by decide)).trans h53
      have e57 : ρ (.tmp 57) = .bool true := (hi 57 (by decide)).trans h57
      exact Gives.pure (.bool true) (by go_simp) ⟨soft_refl _, hb, rfl, fun h => nomatch h⟩
  · intro f wq hb hT hD
    have h14 : f 14 = .pointer (some ⟨w1.heap.size, 0, none⟩) := hT.1
    replace hT := hT.2
    have h15 : f 15 = U8 91 := hT.1
    replace hT := hT.2
    have h16 : f 16 = .bool true := hT.1
    replace hT := hT.2
    have h17 : f 17 = .bool true := hT.1
    replace hT := hT.2
    have h18 : f 18 = .pointer (some ⟨w1.heap.size, 31, none⟩) := hT.1
    replace hT := hT.2
    have h19 : f 19 = U8 67 := hT.1
    replace hT := hT.2
    have h20 : f 20 = .bool true := hT.1
    replace hT := hT.2
    have h21 : f 21 = .bool true := hT.1
    replace hT := hT.2
    have h22 : f 22 = .bool true := hT.1
    replace hT := hT.2
    have h23 : f 23 = .int .i64 0 := hT.1
    replace hT := hT.2
    have h24 : f 24 = .bool true := hT.1
    replace hT := hT.2
    have h25 : f 25 = .bool true := hT.1
    replace hT := hT.2
    have h26 : f 26 = .bool true := hT.1
    replace hT := hT.2
    have h27 : f 27 = .slice a2 40 c2 := hT.1
    replace hT := hT.2
    have h28 : f 28 = .int .i64 40 := hT.1
    replace hT := hT.2
    have h29 : f 29 = .bool true := hT.1
    replace hT := hT.2
    have h30 : f 30 = .bool true := hT.1
    replace hT := hT.2
    have h31 : f 31 = .bool true := hT.1
    replace hT := hT.2
    have h32 : f 32 = .agg (cs U8 k) := hT.1
    replace hT := hT.2
    have h33 : f 33 = .agg (cs U8 Da) := hT.1
    replace hT := hT.2
    have h34 : f 34 = .agg (cs U8 k) := hT.1
    replace hT := hT.2
    have h35 : f 35 = .agg (cs U8 Db) := hT.1
    replace hT := hT.2
    have h36 : f 36 = .bool true := hT.1
    replace hT := hT.2
    have h37 : f 37 = .bool true := hT.1
    replace hT := hT.2
    have h38 : f 38 = .bool true := hT.1
    replace hT := hT.2
    have h39 : (Sp.lit w3.heap.size [97, 98]).p (f 39) wq := hT.1
    replace hT := hT.2
    have h40 : (Sp.bs [97, 98]).p (f 40) wq := hT.1
    replace hT := hT.2
    have h41 : (Sp.lit w3.heap.size [97, 98]).p (f 41) wq := hT.1
    replace hT := hT.2
    have h42 : (Sp.bs [97, 98]).p (f 42) wq := hT.1
    replace hT := hT.2
    have h43 : f 43 = .bool true := hT.1
    replace hT := hT.2
    have h44 : f 44 = .bool true := hT.1
    replace hT := hT.2
    have h45 : f 45 = .bool true := hT.1
    replace hT := hT.2
    have h46 : (Sp.lit w3.heap.size [97, 98]).p (f 46) wq := hT.1
    replace hT := hT.2
    have h47 : (Sp.bs [97, 98]).p (f 47) wq := hT.1
    replace hT := hT.2
    have h48 : (Sp.lit w3.heap.size [97, 97]).p (f 48) wq := hT.1
    replace hT := hT.2
    have h49 : (Sp.bs [97, 97]).p (f 49) wq := hT.1
    replace hT := hT.2
    have h50 : f 50 = .bool false := hT.1
    replace hT := hT.2
    have h51 : f 51 = .bool true := hT.1
    replace hT := hT.2
    have h52 : f 52 = .bool true := hT.1
    replace hT := hT.2
    have h53 : f 53 = .bool true := hT.1
    replace hT := hT.2
    have h54 : f 54 = .agg (cs U8 k) := hT.1
    replace hT := hT.2
    have h55 : f 55 = .agg (cs U8 (k.take 16)) := hT.1
    replace hT := hT.2
    have h56 : f 56 = U8 91 := hT.1
    replace hT := hT.2
    have h57 : f 57 = .bool true := hT.1
    replace hT := hT.2
    have h58 : f 58 = .bool true := hT.1
    replace hT := hT.2
    refine wpT_step rfl rfl (fun K hK => ?_)
    simp only [updL]
    go_simp
    refine hK _ _ ?_
    dsimp only [wpT]
    go_wp2_with fail
    go_ret
    exact ⟨rfl, hb03.trans (hb.mono (by omega))⟩
end Go.Proofs.YtocledgjejlolaaDoor
