/-
  Law 26: LinksSizes; own work.
-/
import Derived.Test.YtojkcbhmhfjioaaLk7
set_option linter.unusedSimpArgs false
set_option linter.unusedVariables false
namespace Go.Proofs.Ytojkcbhmhfjioaa
open Go.RowKit Lk
def eA6 (x : A6) : List Value := (AC6 x).toList
theorem eA6_len (x : A6) : (eA6 x).length = 6 := by simp [eA6]
instance : Inhabited A6 := ⟨A6.zero⟩
theorem aom_shape {w : World} {B : Nat} {u : List It × Value} {M : List Pa} {m : Nat} (h : AO w B u.1 u.2 ∧ u.1.map It.ab = M) (hm : M.length = m) : ∃ a c, u.2 = .slice a m c := by
  obtain ⟨a, c, e, _⟩ := h.1.ow.shape
  have hl : u.1.length = m := by rw [← hm, ← h.2, List.length_map]
  rw [hl] at e
  exact ⟨a, c, e⟩
theorem item_e (w : World) (x : A6) {N : Nat} (h : x.n = N ∧ N ≤ 2000) :
    Calls Try.prog 32 #[.agg (AC6 x)] w fun e w' => ∃ gz : Nat, e = .returned (.tuple #[.agg (ITR x.too (.slice (some ⟨gz, 0, none⟩) N N)), .bool true]) ∧ BW w' (.slice (some ⟨gz, 0, none⟩) N N) (List.replicate N x.by_) ∧ Below w.heap.size w w' ∧ ∀ g, g = gz → w.heap.size ≤ g :=
  (item_c w x h.1 h.2).mono fun e w' ⟨gz, h1, h2, h3, h4⟩ => ⟨gz, h1, h2, h4, fun g hg => by rw [hg]; exact h3⟩
theorem BWg.stb (gz N : Nat) (l : B8) : Stb (fun g => g = gz) (fun w => BW w (.slice (some ⟨gz, 0, none⟩) N N) l) :=
  ⟨fun h hf hd => (BW.stbx _ l).fr h hf (fun g hg => hd g (by simp only [Value.ownBlock, Option.some.injEq] at hg; exact hg.symm)), fun h hg => h.2 _ (by rw [hg]; rfl)⟩
theorem LX.up {w : World} {B b : Nat} {room : Int} {M2 : List Pa} {u : List It × Value} {q : Int} {G : Nat → Prop} {f : FuncId} {args : Array Value} {P : Program} (h : Calls P f args w fun e w' => ∃ u' : List It × Value, e = .returned (.int .i64 q) ∧ LX w' B b room M2 u' ∧ Fr (LF b u.2 u.1) w w' ∧ ∀ g, LF b u'.2 u'.1 g → LF b u.2 u.1 g ∨ w.heap.size ≤ g) :
    Calls P f args w fun e w' => ∃ u' : List It × Value, e = .returned (.int .i64 q) ∧ LX w' B b room M2 u' ∧ Fr (fun g => LF b u.2 u.1 g ∨ G g) w w' ∧ ∀ g, LF b u'.2 u'.1 g → (LF b u.2 u.1 g ∨ G g) ∨ w.heap.size ≤ g :=
  h.mono fun e w' ⟨u', h1, h2, h3, h4⟩ => ⟨u', h1, h2, h3.mono (fun _ _ h => .inl h), fun g h => (h4 g h).imp .inl id⟩
set_option maxRecDepth 100000
attribute [local irreducible] STR RSR AC6 wpT
set_option maxHeartbeats 40000000 in
theorem LinksSizes_w (w : World) (sz : Int) (h0 : 0 ≤ sz) (h1 : sz < 256) (u0 : Value) (n : Nat) (A : List A6) (hA : SV w u0 n (fl eA6 A)) (hn : A.length = n) (hok : ∀ x ∈ A, 0 ≤ x.q ∧ x.q < 256) :
    Calls Try.prog 7 #[.int .u8 sz, u0] w fun e w' => e = .returned (.bool true) ∧ Below w.heap.size w w' := by
  have HA := hid hA
  have HN := hid hn
  have HOK := hid hok
  obtain ⟨ua, uc, rfl, _, hmx, _⟩ := hA
  have hncl : n ≤ 9223372036854775807 := by unfold maxLen at hmx; omega
  have hn0 : (0 : Int) ≤ (n : Int) := by omega
  obtain ⟨room, hroom⟩ : ∃ r, r = sz + 1 := ⟨_, rfl⟩
  have HSZ0 := hid (show IntKind.i64.wrap sz = sz from i64w (by omega) (by omega))
  have HRM := hid (show IntKind.i64.wrap (sz + 1) = room by rw [i64w (by omega) (by omega), hroom])
  have hr1 : 1 ≤ room := by omega
  have hr2 : room ≤ 4096 := by omega
  have hrm : 0 < room := by omega
  have hr256 : room.toNat ≤ 256 := by omega
  obtain ⟨B, hB⟩ : ∃ B, B = w.heap.size := ⟨_, rfl⟩
  have HB := hid hB
  clear hB hn hok hmx hroom
  have M0 := Mm.start no w
  go_enter Try.func7, Try.ntmps7
  go_upto_region 1 with fail
  refine wp_region_lin (.op 0 (.op 1 .done)) (by rfl) ?_
  refine wpT_callv 12 M0 (v := .bool true) rfl rfl rfl (by go_simp) (alive26_c w) (fun w1 M2 => ?_)
  refine wpT_valp 13 (v := .bool false) rfl rfl rfl (by go_simp) ?_
  first | refine wpT_fin ?_ | dsimp only [wpT]
  try simp only [Act.put, List.setIfInBounds_toArray, List.set_cons_succ, List.set_cons_zero]
  go_upto_region 3 with fail
  refine wp_region_lin (.op 0 (.op 1 (.op 2 (.op 3 (.op 4 .done))))) (by rfl) ?_
  refine wpT_valp 14 (v := .int .u8 sz) rfl rfl rfl (by go_simp) ?_
  refine wpT_valp 15 (v := .int .i64 sz) rfl rfl rfl (by have h := HSZ0.out; go_simp) ?_
  refine wpT_valp 16 (v := .int .i64 room) rfl rfl rfl (by have h := HRM.out; go_simp) ?_
  refine wpT_objS (U := Nat) (fun b => .pointer (some ⟨b, 0, none⟩)) (fun b => LF b (.slice none 0 0) []) (fun b w => LX w B b room [] ([], .slice none 0 0)) (some 17) M2 rfl rfl rfl (by go_simp) (lnew_e _ _ room (by rw [HB.out]; exact M2.size) hr1 hr2) (fun b => LX.stb _ _ _ _ ([], .slice none 0 0)) (fun b wn Sn Mn Kn Fn => ?_)
  try simp only [Act.put, List.setIfInBounds_toArray, List.set_cons_succ, List.set_cons_zero]
  refine wpT_valp 5 (v := .pointer (some ⟨b, 0, none⟩)) rfl rfl rfl (by go_simp) ?_
  first | refine wpT_fin ?_ | dsimp only [wpT]
  try simp only [Act.put, List.setIfInBounds_toArray, List.set_cons_succ, List.set_cons_zero]
  go_upto_region 4 with fail
  refine wp_region_lin (.op 0 (.op 1 .done)) (by rfl) ?_
  refine wpT_valp 18 (v := .pointer (some ⟨b, 0, none⟩)) rfl rfl rfl (by go_simp) ?_
  refine wpT_valp 19 (v := .bool false) rfl rfl rfl (by go_simp) ?_
  first | refine wpT_fin ?_ | dsimp only [wpT]
  try simp only [Act.put, List.setIfInBounds_toArray, List.set_cons_succ, List.set_cons_zero]
  go_upto_region 6 with fail
  refine wp_region_lin (.op 0 .done) (by rfl) ?_
  refine wpT_valp 6 (v := .int .i64 0) rfl rfl rfl (by go_simp) ?_
  first | refine wpT_fin ?_ | dsimp only [wpT]
  try simp only [Act.put, List.setIfInBounds_toArray, List.set_cons_succ, List.set_cons_zero]
  go_wp2_with fail
  go_loopw [6] (fun t wr => ∃ (i : Nat) (M : List Pa) (u : List It × Value), i ≤ n ∧ t = .int .i64 i ∧ Mm no w [] wr ∧ LX wr B b room M u ∧ Lk.Ok M ∧ M.length ≤ room.toNat) (fun t _ => n - (intOf t).toNat)
  case atStart =>
    obtain ⟨hX, hM, hd⟩ := Kn _ _ Mn
    exact ⟨0, [], ([], .slice none 0 0), by omega, rfl, hM, hX, (fun x hx => by cases hx), by simp⟩
  case round =>
    clear Mn Kn Fn
    obtain ⟨i, M_, u, hi, rfl, MO, X, hokM, hle⟩ := hrel
    obtain ⟨Ml, hMl⟩ : ∃ Ml, Ml = M_ := ⟨_, rfl⟩
    subst hMl
    have HOKM := hid hokM
    have HLE := hid hle
    have hm9 : Ml.length ≤ 5000 := by omega
    have F0 : ∀ g, LF b u.2 u.1 g → no g ∨ w.heap.size ≤ g := fun g hg => .inr (by have := (X.1.lt g hg).1; rw [HB.out] at this; exact this)
    obtain ⟨S0, M, K0⟩ := MO.keep (LX.stb B b room Ml u) X (fun q hq => by cases hq)
    clear MO X hokM hle
    by_cases hin : i < n
    · have hlt : (i : Int) < (n : Int) := by omega
      have hi00 : (0 : Int) ≤ (i : Int) := by omega
      by_cases h60 : i < 60
      · have hlt60 : (i : Int) < 60 := by omega
        obtain ⟨x, hx⟩ : ∃ x, A[i]? = some x := ⟨_, List.getElem?_eq_getElem (by have := HN.out; omega)⟩
        have okx := HOK.out x (List.mem_of_getElem? hx)
        obtain ⟨gu, uo, uc', e⟩ := sv_some eA6_len (by decide) HA.out (by have := HN.out; omega)
        injection e with e1 e2 e3
        subst e1
        clear e2 e3
        have HEL : Hid (∀ w', Below w.heap.size w w' → exLoad Try.prog 69 (.pointer (some ⟨gu, uo + i * 6, none⟩)) w' = .ok (.value (.agg (AC6 x))) w') := hid fun w' h =>
          sv_load eA6_len Try.underlying69 rfl inf_ac6 (by decide) (SV.below HA.out h) hx (AC6 x) rfl
        obtain ⟨i1, hi1⟩ : ∃ j, j = i + 1 := ⟨_, rfl⟩
        have HI1 := hid (show IntKind.i64.wrap ((i : Int) + 1) = (i1 : Int) by rw [i64w (by omega) (by omega), hi1]; rfl)
        have HII := hid hi1
        obtain ⟨r, hr⟩ : ∃ r, x.q.tmod 8 = r := ⟨_, rfl⟩
        have HQ := hid hr
        clear hx hi1 okx hr
        by_cases h4 : r = 4
        · subst h4
          obtain ⟨⟨M2, y, q2⟩, hres⟩ : ∃ z, Lk.take Ml x.at_ = z := ⟨_, rfl⟩
          have HRES := hid hres
          have hok2 := HOKM.out.take (i := x.at_)
          have hle2 := Lk.take_len (i := x.at_) HLE.out
          rw [hres] at hok2 hle2
          have HOK2 := hid (show Lk.Ok M2 from hok2)
          have HLE2 := hid (show M2.length ≤ room.toNat from hle2)
          obtain ⟨m2, hm2⟩ : ∃ m, M2.length = m := ⟨_, rfl⟩
          have HM2 := hid hm2
          have hm29 : M2.length ≤ 5000 := by have := HLE2.out; omega
          have hrm2 : ¬ room < (m2 : Int) := by have := HLE2.out; omega
          have hm2c : m2 ≤ 5000 := by omega
          clear hres hok2 hle2 hm2
          go_upto_region 7 with fail
          refine wp_region_lin (.op 0 (.op 1 (.op 2 (.op 3 (.op 4 (.op 5 (.op 6 (.op 7 .done)))))))) (by rfl) ?_
          refine wpT_valp 20 (v := .int .i64 i) rfl rfl rfl (by go_simp) ?_
          refine wpT_valp 21 (v := .slice (some ⟨gu, uo, none⟩) n uc) rfl rfl rfl (by go_simp) ?_
          refine wpT_valp 22 (v := .int .i64 n) rfl rfl rfl (by go_simp) ?_
          refine wpT_valp 23 (v := .bool true) rfl rfl rfl (by go_simp) ?_
          try simp only [Act.put, List.setIfInBounds_toArray, List.set_cons_succ, List.set_cons_zero]
          refine wpT_valp 24 (v := .bool true) rfl rfl rfl (by go_simp) ?_
          refine wpT_valp 25 (v := .int .i64 i) rfl rfl (by simp [Region.wanted, yielded, Act.put]) (by go_simp) ?_
          refine wpT_valp 26 (v := .bool true) rfl rfl (by simp [Region.wanted, yielded, Act.put]) (by go_simp) ?_
          refine wpT_valp 27 (v := .bool true) rfl rfl rfl (by go_simp) ?_
          first | refine wpT_fin ?_ | dsimp only [wpT]
          try simp only [Act.put, List.setIfInBounds_toArray, List.set_cons_succ, List.set_cons_zero]
          go_upto_region 9 with fail
          refine wp_region_lin (.op 0 (.op 1 (.op 2 (.op 3 (.op 4 (.op 5 .done)))))) (by rfl) ?_
          refine wpT_valp 30 (v := .slice (some ⟨gu, uo, none⟩) n uc) rfl rfl rfl (by go_simp) ?_
          refine wpT_valp 31 (v := .int .i64 i) rfl rfl rfl (by go_simp) ?_
          refine wpT_valp 32 (v := .pointer (some ⟨gu, uo + i * 6, none⟩)) rfl rfl rfl (by go_simp) ?_
          refine wpT_ldy 33 (.pointer (some ⟨gu, uo + i * 6, none⟩)) (.agg (AC6 x)) rfl rfl rfl (by go_simp) (HEL.out _ (K0 _ _ M).2.1.end_) rfl ?_
          try simp only [Act.put, List.setIfInBounds_toArray, List.set_cons_succ, List.set_cons_zero]
          refine wpT_new (z := .agg (AC6 A6.zero)) 7 M (by kernel_rfl) (by decide) rfl rfl rfl rfl (fun b1 w2 M3 => ?_)
          try dsimp only [Value.cells] at M3
          refine wpT_st0 M3 0 (AC6 x) inf_ac6 rfl rfl rfl rfl (by go_simp) (by go_simp) (by simp [ITR_size, STR_size, RSR_size, AC6_size]) (by simp [ITR_size, STR_size, RSR_size, AC6_size]) (by simp [go_sem]) rfl (fun w4 M5 => ?_)
          dsimp only [List.set] at M5
          first | refine wpT_fin ?_ | dsimp only [wpT]
          try simp only [Act.put, List.setIfInBounds_toArray, List.set_cons_succ, List.set_cons_zero]
          go_upto_region 10 with fail
          refine wp_region_lin (.op 0 (.op 1 (.op 2 .done))) (by rfl) ?_
          refine wpT_valp 34 (v := .pointer (some ⟨b1, 0, none⟩)) rfl rfl rfl (by go_simp) ?_
          refine wpT_valp 35 (v := .int .u8 x.q) rfl rfl rfl (by have c0 := a6_c0 (M5.row (b := b1) (c := AC6 x) (by simp)); go_simp) ?_
          refine wpT_valp 36 (v := .int .u8 4) rfl rfl rfl (by have h := HQ.out; go_simp) ?_
          first | refine wpT_fin ?_ | dsimp only [wpT]
          try simp only [Act.put, List.setIfInBounds_toArray, List.set_cons_succ, List.set_cons_zero]
          go_upto_region 14 with fail
          refine wp_region_lin (.op 0 (.op 1 .done)) (by rfl) ?_
          refine wpT_valp 51 (v := .bool true) rfl rfl rfl (by go_simp) ?_
          refine wpT_valp 50 (v := .bool true) rfl rfl rfl (by go_simp) ?_
          first | refine wpT_fin ?_ | dsimp only [wpT]
          try simp only [Act.put, List.setIfInBounds_toArray, List.set_cons_succ, List.set_cons_zero]
          go_upto_region 15 with fail
          refine wp_region_lin (.op 0 (.op 1 (.op 2 (.op 3 .done)))) (by rfl) ?_
          refine wpT_valp 52 (v := .pointer (some ⟨b, 0, none⟩)) rfl rfl rfl (by go_simp) ?_
          refine wpT_valp 53 (v := .pointer (some ⟨b1, 2, none⟩)) rfl rfl rfl (by go_simp) ?_
          refine wpT_valp 54 (v := .int .i64 x.at_) rfl rfl rfl (by have c0 := a6_c2 (M5.row (b := b1) (c := AC6 x) (by simp)); go_simp) ?_
          refine wpT_obj (U := (List It × Value) × (Option Addr × Nat)) (fun u2 => .tuple #[.agg (ITR y.1 (.slice u2.2.1 y.2.length u2.2.2)), .int .i64 q2]) (fun u2 => LG b u2.1 (.slice u2.2.1 y.2.length u2.2.2)) (fun u2 w => LX w B b room M2 u2.1 ∧ BW w (.slice u2.2.1 y.2.length u2.2.2) y.2) (some 55) M5 K0 F0 rfl rfl rfl (by go_simp) (fun hX => ltake_e _ hX hrm x.at_ hm9 (HRES.out : Lk.take Ml x.at_ = (M2, y, q2)) rfl) (fun u2 => LG.stb _ _ _ _ _ _ _) (fun u2 w2 Sw2 Mw2 K2 F2 => ?_)
          first | refine wpT_fin ?_ | dsimp only [wpT]
          try simp only [Act.put, List.setIfInBounds_toArray, List.set_cons_succ, List.set_cons_zero]
          go_upto_region 22 with fail
          obtain ⟨hXt, MOt, hdt⟩ := K2 _ _ Mw2
          have Ft : ∀ g, LF b u2.1.2 u2.1.1 g → no g ∨ w.heap.size ≤ g := fun g h => .inr (by have := (hXt.1.1.lt g h).1; rw [HB.out] at this; exact this)
          obtain ⟨St, Mt, Kt⟩ := MOt.keep (LX.stb B b room M2 u2.1) hXt.1 (fun q hq h => hdt q hq (.inl h))
          clear hXt MOt hdt
          refine wp_region_lin (.op 0 (.op 1 (.op 2 (.op 3 (.op 4 (.op 5 (.op 6 (.op 7 (.op 8 (.op 9 (.op 10 (.op 11 (.op 12 (.op 13 .done)))))))))))))) (by rfl) ?_
          refine wpT_valp 78 (v := .pointer (some ⟨b, 0, none⟩)) rfl rfl rfl (by go_simp) ?_
          refine wpT_callv 79 Mt (v := .int .i64 m2) rfl rfl rfl (by go_simp) (llen_e w2 (Kt _ _ Mt).1 HM2.out) (fun w6 M7 => ?_)
          refine wpT_valp 80 (v := .int .u8 sz) rfl rfl rfl (by go_simp) ?_
          refine wpT_valp 81 (v := .int .i64 sz) rfl rfl rfl (by have h := HSZ0.out; go_simp) ?_
          try simp only [Act.put, List.setIfInBounds_toArray, List.set_cons_succ, List.set_cons_zero]
          refine wpT_valp 82 (v := .int .i64 room) rfl rfl rfl (by have h := HRM.out; go_simp) ?_
          refine wpT_valp 83 (v := .bool false) rfl rfl rfl (by go_simp) ?_
          refine wpT_valp 84 (v := .bool false) rfl rfl rfl (by go_simp) ?_
          refine wpT_valp 85 (v := .pointer (some ⟨b, 0, none⟩)) rfl rfl (by simp [Region.wanted, yielded, Act.put]) (by go_simp) ?_
          refine wpT_objN (U := List It × Value) (fun ua1 => ua1.2) (fun ua1 => AF ua1.2 ua1.1) (fun ua1 w => AO w B ua1.1 ua1.2 ∧ ua1.1.map It.ab = M2) (some 86) M7 Kt Ft (LX.stb _ _ _ _ _) rfl rfl (by simp [Region.wanted, yielded, Act.put]) (by go_simp) (fun hX => lall_e _ hX hm29) (fun ua1 => AOM.stb _ _ _ _) (fun ua1 wa1 Swa1 Mwa1 Ka1 Fa1 => ?_)
          obtain ⟨xa, xc, hxa⟩ := aom_shape (Ka1 _ _ Mwa1).1.2 HM2.out
          obtain ⟨La, va⟩ := ua1
          dsimp only at hxa
          subst hxa
          try simp only [Act.put, List.setIfInBounds_toArray, List.set_cons_succ, List.set_cons_zero]
          refine wpT_valp 87 (v := .int .i64 m2) rfl rfl (by simp [Region.wanted, yielded, Act.put]) (by go_simp) ?_
          refine wpT_valp 88 (v := .pointer (some ⟨b, 0, none⟩)) rfl rfl (by simp [Region.wanted, yielded, Act.put]) (by go_simp) ?_
          refine wpT_callv 89 Mwa1 (v := .int .i64 m2) rfl rfl (by simp [Region.wanted, yielded, Act.put]) (by go_simp) (llen_e wa1 (Ka1 _ _ Mwa1).1.1 HM2.out) (fun w8 M9 => ?_)
          refine wpT_valp 90 (v := .bool false) rfl rfl (by simp [Region.wanted, yielded, Act.put]) (by go_simp) ?_
          refine wpT_valp 91 (v := .bool false) rfl rfl rfl (by go_simp) ?_
          first | refine wpT_fin ?_ | dsimp only [wpT]
          try simp only [Act.put, List.setIfInBounds_toArray, List.set_cons_succ, List.set_cons_zero]
          go_upto_region 24 with fail
          obtain ⟨hXt, MOt, hdt⟩ := Ka1 _ _ M9
          obtain ⟨S9, M9, K9⟩ := MOt.keep (LX.stb B b room M2 u2.1) hXt.1 (fun q hq h => hdt q hq (.inl h))
          clear hXt MOt hdt
          refine wp_region_lin (.op 0 (.op 1 (.op 2 (.op 3 .done)))) (by rfl) ?_
          refine wpT_valp 92 (v := .pointer (some ⟨b, 0, none⟩)) rfl rfl rfl (by go_simp) ?_
          refine wpT_objN (U := List It × Value) (fun ua2 => ua2.2) (fun ua2 => AF ua2.2 ua2.1) (fun ua2 w => AO w B ua2.1 ua2.2 ∧ ua2.1.map It.ab = M2) (some 93) M9 K9 Ft (LX.stb _ _ _ _ _) rfl rfl rfl (by go_simp) (fun hX => lall_e _ hX hm29) (fun ua2 => AOM.stb _ _ _ _) (fun ua2 wa2 Swa2 Mwa2 Ka2 Fa2 => ?_)
          obtain ⟨ya, yc, hya⟩ := aom_shape (Ka2 _ _ Mwa2).1.2 HM2.out
          obtain ⟨Lb, vb⟩ := ua2
          dsimp only at hya
          subst hya
          refine wpT_valp 94 (v := .int .i64 m2) rfl rfl rfl (by go_simp) ?_
          refine wpT_valp 95 (v := .int .i64 0) rfl rfl rfl (by go_simp) ?_
          first | refine wpT_fin ?_ | dsimp only [wpT]
          try simp only [Act.put, List.setIfInBounds_toArray, List.set_cons_succ, List.set_cons_zero]
          go_wp2_with fail
          obtain ⟨hXe, MOe, hde⟩ := Ka2 _ _ Mwa2
          have MOe := MOe.sub (H' := []) (by simp)
          clear Ka2 Ka1 K9 Kt Mwa2
          go_loopw [95] (fun t wr => ∃ j : Nat, j ≤ m2 ∧ t = .int .i64 j ∧ Mm no w [] wr ∧ LX wr B b room M2 u2.1 ∧ (AO wr B Lb (.slice ya m2 yc) ∧ Lb.map It.ab = M2)) (fun t _ => m2 - (intOf t).toNat)
          case atStart => exact ⟨0, by omega, rfl, MOe, hXe.1, hXe.2⟩
          case round =>
            clear MOe hXe hde
            obtain ⟨j, hj, rfl, MO, hXL, hXA⟩ := hrel
            by_cases hjm : j < m2
            · have hltj : (j : Int) < (m2 : Int) := by omega
              have hj00 : (0 : Int) ≤ (j : Int) := by omega
              have hlb : Lb.length = m2 := by rw [← HM2.out, ← hXA.2, List.length_map]
              obtain ⟨y, hy⟩ : ∃ y, Lb[j]? = some y := ⟨_, List.getElem?_eq_getElem (by omega)⟩
              have hok2 := HOK2.out (y.too, y.l) (by rw [← hXA.2]; exact List.mem_map.2 ⟨y, List.mem_of_getElem? hy, rfl⟩)
              have hyt0 : ¬ y.too < 0 := by have := hok2.2.1; dsimp only at this; omega
              have hyt1 : ¬ 16 ≤ y.too := by have := hok2.2.2; dsimp only at this; omega
              obtain ⟨yg, c, e⟩ := ow_some hXA.1.ow (by omega)
              injection e with e1 e2 e3
              subst e1
              clear e2 e3 hok2
              have HEQ : Hid (∀ v : World, (AO v B Lb (.slice (some ⟨yg, 0, none⟩) m2 yc) ∧ Lb.map It.ab = M2) → exLoad Try.prog 72 (.pointer (some ⟨yg, j * 2, none⟩)) v = .ok (.value (.agg (ITR y.too (.slice (some ⟨y.g, 0, none⟩) 736 y.c)))) v) := hid fun v h => by
                have := h.1.ow.sv
                rw [hlb] at this
                have := sv_itm this hy
                rwa [Nat.zero_add] at this
              obtain ⟨j1, hj1⟩ : ∃ k, k = j + 1 := ⟨_, rfl⟩
              have HJ1 := hid (show IntKind.i64.wrap ((j : Int) + 1) = (j1 : Int) by rw [i64w (by omega) (by omega), hj1]; rfl)
              have HJJ := hid hj1
              obtain ⟨Sq, M, Kq⟩ := MO.keep ((LX.stb B b room M2 u2.1).and (AOM.stb B Lb (.slice (some ⟨yg, 0, none⟩) m2 yc) M2)) ⟨hXL, hXA⟩ (fun q hq => by cases hq)
              clear hy hj1 hlb MO hXL hXA
              go_upto_region 25 with fail
              refine wp_region_lin (.op 0 .done) (by rfl) ?_
              refine wpT_valp 96 (v := .bool true) rfl rfl rfl (by go_simp) ?_
              first | refine wpT_fin ?_ | dsimp only [wpT]
              try simp only [Act.put, List.setIfInBounds_toArray, List.set_cons_succ, List.set_cons_zero]
              go_upto_region 26 with fail
              refine wp_region_lin (.op 0 (.op 1 (.op 2 (.op 3 .done)))) (by rfl) ?_
              refine wpT_valp 97 (v := .pointer (some ⟨yg, j * 2, none⟩)) rfl rfl rfl (by go_simp) ?_
              refine wpT_ldy 98 (.pointer (some ⟨yg, j * 2, none⟩)) (.agg (ITR y.too (.slice (some ⟨y.g, 0, none⟩) 736 y.c))) rfl rfl rfl (by go_simp) (HEQ.out _ (Kq _ _ M).1.2) rfl ?_
              refine wpT_new (z := .agg (ITR 0 (.slice none 0 0))) 11 M (by kernel_rfl) (by decide) rfl rfl rfl rfl (fun b1 w2 M3 => ?_)
              try dsimp only [Value.cells] at M3
              refine wpT_st0 M3 0 (ITR y.too (.slice (some ⟨y.g, 0, none⟩) 736 y.c)) inf_itm rfl rfl rfl rfl (by go_simp) (by go_simp) (by simp [ITR_size, STR_size, RSR_size, AC6_size]) (by simp [ITR_size, STR_size, RSR_size, AC6_size]) (by simp [go_sem]) rfl (fun w4 M5 => ?_)
              dsimp only [List.set] at M5
              first | refine wpT_fin ?_ | dsimp only [wpT]
              try simp only [Act.put, List.setIfInBounds_toArray, List.set_cons_succ, List.set_cons_zero]
              go_upto_region 27 with fail
              refine wp_region_lin (.op 0 (.op 1 (.op 2 (.op 3 (.op 4 (.op 5 (.op 6 (.op 7 (.op 8 (.op 9 (.op 10 (.op 11 (.op 12 (.op 13 .done)))))))))))))) (by rfl) ?_
              refine wpT_valp 99 (v := .pointer (some ⟨b1, 1, none⟩)) rfl rfl rfl (by go_simp) ?_
              refine wpT_valp 100 (v := .slice (some ⟨y.g, 0, none⟩) 736 y.c) rfl rfl rfl (by have c0 := it_c1 (M5.row (b := b1) (c := ITR y.too (.slice (some ⟨y.g, 0, none⟩) 736 y.c)) (by simp)); go_simp) ?_
              refine wpT_valp 101 (v := .int .i64 736) rfl rfl rfl (by go_simp) ?_
              refine wpT_valp 102 (v := .bool false) rfl rfl rfl (by go_simp) ?_
              try simp only [Act.put, List.setIfInBounds_toArray, List.set_cons_succ, List.set_cons_zero]
              refine wpT_valp 103 (v := .bool false) rfl rfl rfl (by go_simp) ?_
              refine wpT_valp 104 (v := .pointer (some ⟨b1, 0, none⟩)) rfl rfl (by simp [Region.wanted, yielded, Act.put]) (by go_simp) ?_
              refine wpT_valp 105 (v := .int .i64 y.too) rfl rfl (by simp [Region.wanted, yielded, Act.put]) (by have c0 := it_c0 (M5.row (b := b1) (c := ITR y.too (.slice (some ⟨y.g, 0, none⟩) 736 y.c)) (by simp)); go_simp) ?_
              refine wpT_valp 106 (v := .bool false) rfl rfl (by simp [Region.wanted, yielded, Act.put]) (by go_simp) ?_
              refine wpT_valp 107 (v := .bool false) rfl rfl rfl (by go_simp) ?_
              try simp only [Act.put, List.setIfInBounds_toArray, List.set_cons_succ, List.set_cons_zero]
              refine wpT_valp 108 (v := .bool false) rfl rfl rfl (by go_simp) ?_
              refine wpT_valp 109 (v := .pointer (some ⟨b1, 0, none⟩)) rfl rfl (by simp [Region.wanted, yielded, Act.put]) (by go_simp) ?_
              refine wpT_valp 110 (v := .int .i64 y.too) rfl rfl (by simp [Region.wanted, yielded, Act.put]) (by have c0 := it_c0 (M5.row (b := b1) (c := ITR y.too (.slice (some ⟨y.g, 0, none⟩) 736 y.c)) (by simp)); go_simp) ?_
              refine wpT_valp 111 (v := .bool false) rfl rfl (by simp [Region.wanted, yielded, Act.put]) (by go_simp) ?_
              refine wpT_valp 112 (v := .bool false) rfl rfl rfl (by go_simp) ?_
              first | refine wpT_fin ?_ | dsimp only [wpT]
              try simp only [Act.put, List.setIfInBounds_toArray, List.set_cons_succ, List.set_cons_zero]
              go_upto_region 29 with fail
              refine wp_region_lin (.op 0 (.op 1 .done)) (by rfl) ?_
              refine wpT_valp 113 (v := .int .i64 j1) rfl rfl rfl (by have h := HJ1.out; go_simp) ?_
              refine wpT_valp 95 (v := .int .i64 j1) rfl rfl rfl (by go_simp) ?_
              first | refine wpT_fin ?_ | dsimp only [wpT]
              try simp only [Act.put, List.setIfInBounds_toArray, List.set_cons_succ, List.set_cons_zero]
              go_wp2_with fail
              go_roundw
              case rel => exact ⟨j1, by have := HJJ.out; omega, rfl, (Kq _ _ M5).2.1.sub (H' := []) (by simp), (Kq _ _ M5).1.1, (Kq _ _ M5).1.2⟩
              case measure => have := HJJ.out; simp only [intOf]; omega
            · obtain rfl : m2 = j := by omega
              have HXL := hid hXL
              have HOM := hid MO
              have M := MO
              clear hXL hXA MO
              go_upto_region 25 with fail
              refine wp_region_lin (.op 0 .done) (by rfl) ?_
              refine wpT_valp 96 (v := .bool false) rfl rfl rfl (by go_simp) ?_
              first | refine wpT_fin ?_ | dsimp only [wpT]
              try simp only [Act.put, List.setIfInBounds_toArray, List.set_cons_succ, List.set_cons_zero]
              go_upto_region 8 with fail
              refine wp_region_lin (.op 0 (.op 1 (.op 2 .done))) (by rfl) ?_
              refine wpT_valp 28 (v := .int .i64 i) rfl rfl rfl (by go_simp) ?_
              refine wpT_valp 29 (v := .int .i64 i1) rfl rfl rfl (by have h := HI1.out; go_simp) ?_
              refine wpT_valp 6 (v := .int .i64 i1) rfl rfl rfl (by go_simp) ?_
              first | refine wpT_fin ?_ | dsimp only [wpT]
              try simp only [Act.put, List.setIfInBounds_toArray, List.set_cons_succ, List.set_cons_zero]
              go_wp2_with fail
              go_roundw
              case rel => exact ⟨i1, M2, u2.1, by have := HII.out; omega, rfl, HOM.out, HXL.out, HOK2.out, HLE2.out⟩
              case measure => have := HII.out; simp only [intOf]; omega
        by_cases h5 : r = 5
        · subst h5
          obtain ⟨⟨M2, y, q2⟩, hres⟩ : ∃ z, Lk.take Ml x.at_ = z := ⟨_, rfl⟩
          have HRES := hid hres
          have hok2 := HOKM.out.take (i := x.at_)
          have hle2 := Lk.take_len (i := x.at_) HLE.out
          rw [hres] at hok2 hle2
          have HOK2 := hid (show Lk.Ok M2 from hok2)
          have HLE2 := hid (show M2.length ≤ room.toNat from hle2)
          obtain ⟨m2, hm2⟩ : ∃ m, M2.length = m := ⟨_, rfl⟩
          have HM2 := hid hm2
          have hm29 : M2.length ≤ 5000 := by have := HLE2.out; omega
          have hrm2 : ¬ room < (m2 : Int) := by have := HLE2.out; omega
          have hm2c : m2 ≤ 5000 := by omega
          clear hres hok2 hle2 hm2
          go_upto_region 7 with fail
          refine wp_region_lin (.op 0 (.op 1 (.op 2 (.op 3 (.op 4 (.op 5 (.op 6 (.op 7 .done)))))))) (by rfl) ?_
          refine wpT_valp 20 (v := .int .i64 i) rfl rfl rfl (by go_simp) ?_
          refine wpT_valp 21 (v := .slice (some ⟨gu, uo, none⟩) n uc) rfl rfl rfl (by go_simp) ?_
          refine wpT_valp 22 (v := .int .i64 n) rfl rfl rfl (by go_simp) ?_
          refine wpT_valp 23 (v := .bool true) rfl rfl rfl (by go_simp) ?_
          try simp only [Act.put, List.setIfInBounds_toArray, List.set_cons_succ, List.set_cons_zero]
          refine wpT_valp 24 (v := .bool true) rfl rfl rfl (by go_simp) ?_
          refine wpT_valp 25 (v := .int .i64 i) rfl rfl (by simp [Region.wanted, yielded, Act.put]) (by go_simp) ?_
          refine wpT_valp 26 (v := .bool true) rfl rfl (by simp [Region.wanted, yielded, Act.put]) (by go_simp) ?_
          refine wpT_valp 27 (v := .bool true) rfl rfl rfl (by go_simp) ?_
          first | refine wpT_fin ?_ | dsimp only [wpT]
          try simp only [Act.put, List.setIfInBounds_toArray, List.set_cons_succ, List.set_cons_zero]
          go_upto_region 9 with fail
          refine wp_region_lin (.op 0 (.op 1 (.op 2 (.op 3 (.op 4 (.op 5 .done)))))) (by rfl) ?_
          refine wpT_valp 30 (v := .slice (some ⟨gu, uo, none⟩) n uc) rfl rfl rfl (by go_simp) ?_
          refine wpT_valp 31 (v := .int .i64 i) rfl rfl rfl (by go_simp) ?_
          refine wpT_valp 32 (v := .pointer (some ⟨gu, uo + i * 6, none⟩)) rfl rfl rfl (by go_simp) ?_
          refine wpT_ldy 33 (.pointer (some ⟨gu, uo + i * 6, none⟩)) (.agg (AC6 x)) rfl rfl rfl (by go_simp) (HEL.out _ (K0 _ _ M).2.1.end_) rfl ?_
          try simp only [Act.put, List.setIfInBounds_toArray, List.set_cons_succ, List.set_cons_zero]
          refine wpT_new (z := .agg (AC6 A6.zero)) 7 M (by kernel_rfl) (by decide) rfl rfl rfl rfl (fun b1 w2 M3 => ?_)
          try dsimp only [Value.cells] at M3
          refine wpT_st0 M3 0 (AC6 x) inf_ac6 rfl rfl rfl rfl (by go_simp) (by go_simp) (by simp [ITR_size, STR_size, RSR_size, AC6_size]) (by simp [ITR_size, STR_size, RSR_size, AC6_size]) (by simp [go_sem]) rfl (fun w4 M5 => ?_)
          dsimp only [List.set] at M5
          first | refine wpT_fin ?_ | dsimp only [wpT]
          try simp only [Act.put, List.setIfInBounds_toArray, List.set_cons_succ, List.set_cons_zero]
          go_upto_region 10 with fail
          refine wp_region_lin (.op 0 (.op 1 (.op 2 .done))) (by rfl) ?_
          refine wpT_valp 34 (v := .pointer (some ⟨b1, 0, none⟩)) rfl rfl rfl (by go_simp) ?_
          refine wpT_valp 35 (v := .int .u8 x.q) rfl rfl rfl (by have c0 := a6_c0 (M5.row (b := b1) (c := AC6 x) (by simp)); go_simp) ?_
          refine wpT_valp 36 (v := .int .u8 5) rfl rfl rfl (by have h := HQ.out; go_simp) ?_
          first | refine wpT_fin ?_ | dsimp only [wpT]
          try simp only [Act.put, List.setIfInBounds_toArray, List.set_cons_succ, List.set_cons_zero]
          go_upto_region 14 with fail
          refine wp_region_lin (.op 0 (.op 1 .done)) (by rfl) ?_
          refine wpT_valp 51 (v := .bool false) rfl rfl rfl (by go_simp) ?_
          refine wpT_valp 50 (v := .bool false) rfl rfl rfl (by go_simp) ?_
          first | refine wpT_fin ?_ | dsimp only [wpT]
          try simp only [Act.put, List.setIfInBounds_toArray, List.set_cons_succ, List.set_cons_zero]
          go_upto_region 16 with fail
          refine wp_region_lin (.op 0 (.op 1 .done)) (by rfl) ?_
          refine wpT_valp 57 (v := .bool true) rfl rfl rfl (by go_simp) ?_
          refine wpT_valp 56 (v := .bool true) rfl rfl rfl (by go_simp) ?_
          first | refine wpT_fin ?_ | dsimp only [wpT]
          try simp only [Act.put, List.setIfInBounds_toArray, List.set_cons_succ, List.set_cons_zero]
          go_upto_region 17 with fail
          refine wp_region_lin (.op 0 (.op 1 (.op 2 (.op 3 .done)))) (by rfl) ?_
          refine wpT_valp 58 (v := .pointer (some ⟨b, 0, none⟩)) rfl rfl rfl (by go_simp) ?_
          refine wpT_valp 59 (v := .pointer (some ⟨b1, 2, none⟩)) rfl rfl rfl (by go_simp) ?_
          refine wpT_valp 60 (v := .int .i64 x.at_) rfl rfl rfl (by have c0 := a6_c2 (M5.row (b := b1) (c := AC6 x) (by simp)); go_simp) ?_
          refine wpT_obj (U := List It × Value) (fun u2 => .int .i64 q2) (fun u2 => LF b u2.2 u2.1) (fun u2 w => LX w B b room M2 u2) (some 61) M5 K0 F0 rfl rfl rfl (by first | (go_simp; done) | (go_simp; rfl)) (fun hX => llose_e _ hX hrm x.at_ hm9 (x := y) HRES.out) (fun u2 => LX.stb _ _ _ _ _) (fun u2 w2 Sw2 Mw2 K2 F2 => ?_)
          first | refine wpT_fin ?_ | dsimp only [wpT]
          try simp only [Act.put, List.setIfInBounds_toArray, List.set_cons_succ, List.set_cons_zero]
          go_upto_region 22 with fail
          obtain ⟨hXt, MOt, hdt⟩ := K2 _ _ Mw2
          have Ft : ∀ g, LF b u2.2 u2.1 g → no g ∨ w.heap.size ≤ g := fun g h => .inr (by have := (hXt.1.lt g h).1; rw [HB.out] at this; exact this)
          obtain ⟨St, Mt, Kt⟩ := MOt.keep (LX.stb B b room M2 u2) hXt (fun q hq h => hdt q hq h)
          clear hXt MOt hdt
          refine wp_region_lin (.op 0 (.op 1 (.op 2 (.op 3 (.op 4 (.op 5 (.op 6 (.op 7 (.op 8 (.op 9 (.op 10 (.op 11 (.op 12 (.op 13 .done)))))))))))))) (by rfl) ?_
          refine wpT_valp 78 (v := .pointer (some ⟨b, 0, none⟩)) rfl rfl rfl (by go_simp) ?_
          refine wpT_callv 79 Mt (v := .int .i64 m2) rfl rfl rfl (by go_simp) (llen_e w2 (Kt _ _ Mt).1 HM2.out) (fun w6 M7 => ?_)
          refine wpT_valp 80 (v := .int .u8 sz) rfl rfl rfl (by go_simp) ?_
          refine wpT_valp 81 (v := .int .i64 sz) rfl rfl rfl (by have h := HSZ0.out; go_simp) ?_
          try simp only [Act.put, List.setIfInBounds_toArray, List.set_cons_succ, List.set_cons_zero]
          refine wpT_valp 82 (v := .int .i64 room) rfl rfl rfl (by have h := HRM.out; go_simp) ?_
          refine wpT_valp 83 (v := .bool false) rfl rfl rfl (by go_simp) ?_
          refine wpT_valp 84 (v := .bool false) rfl rfl rfl (by go_simp) ?_
          refine wpT_valp 85 (v := .pointer (some ⟨b, 0, none⟩)) rfl rfl (by simp [Region.wanted, yielded, Act.put]) (by go_simp) ?_
          refine wpT_objN (U := List It × Value) (fun ua1 => ua1.2) (fun ua1 => AF ua1.2 ua1.1) (fun ua1 w => AO w B ua1.1 ua1.2 ∧ ua1.1.map It.ab = M2) (some 86) M7 Kt Ft (LX.stb _ _ _ _ _) rfl rfl (by simp [Region.wanted, yielded, Act.put]) (by go_simp) (fun hX => lall_e _ hX hm29) (fun ua1 => AOM.stb _ _ _ _) (fun ua1 wa1 Swa1 Mwa1 Ka1 Fa1 => ?_)
          obtain ⟨xa, xc, hxa⟩ := aom_shape (Ka1 _ _ Mwa1).1.2 HM2.out
          obtain ⟨La, va⟩ := ua1
          dsimp only at hxa
          subst hxa
          try simp only [Act.put, List.setIfInBounds_toArray, List.set_cons_succ, List.set_cons_zero]
          refine wpT_valp 87 (v := .int .i64 m2) rfl rfl (by simp [Region.wanted, yielded, Act.put]) (by go_simp) ?_
          refine wpT_valp 88 (v := .pointer (some ⟨b, 0, none⟩)) rfl rfl (by simp [Region.wanted, yielded, Act.put]) (by go_simp) ?_
          refine wpT_callv 89 Mwa1 (v := .int .i64 m2) rfl rfl (by simp [Region.wanted, yielded, Act.put]) (by go_simp) (llen_e wa1 (Ka1 _ _ Mwa1).1.1 HM2.out) (fun w8 M9 => ?_)
          refine wpT_valp 90 (v := .bool false) rfl rfl (by simp [Region.wanted, yielded, Act.put]) (by go_simp) ?_
          refine wpT_valp 91 (v := .bool false) rfl rfl rfl (by go_simp) ?_
          first | refine wpT_fin ?_ | dsimp only [wpT]
          try simp only [Act.put, List.setIfInBounds_toArray, List.set_cons_succ, List.set_cons_zero]
          go_upto_region 24 with fail
          obtain ⟨hXt, MOt, hdt⟩ := Ka1 _ _ M9
          obtain ⟨S9, M9, K9⟩ := MOt.keep (LX.stb B b room M2 u2) hXt.1 (fun q hq h => hdt q hq (.inl h))
          clear hXt MOt hdt
          refine wp_region_lin (.op 0 (.op 1 (.op 2 (.op 3 .done)))) (by rfl) ?_
          refine wpT_valp 92 (v := .pointer (some ⟨b, 0, none⟩)) rfl rfl rfl (by go_simp) ?_
          refine wpT_objN (U := List It × Value) (fun ua2 => ua2.2) (fun ua2 => AF ua2.2 ua2.1) (fun ua2 w => AO w B ua2.1 ua2.2 ∧ ua2.1.map It.ab = M2) (some 93) M9 K9 Ft (LX.stb _ _ _ _ _) rfl rfl rfl (by go_simp) (fun hX => lall_e _ hX hm29) (fun ua2 => AOM.stb _ _ _ _) (fun ua2 wa2 Swa2 Mwa2 Ka2 Fa2 => ?_)
          obtain ⟨ya, yc, hya⟩ := aom_shape (Ka2 _ _ Mwa2).1.2 HM2.out
          obtain ⟨Lb, vb⟩ := ua2
          dsimp only at hya
          subst hya
          refine wpT_valp 94 (v := .int .i64 m2) rfl rfl rfl (by go_simp) ?_
          refine wpT_valp 95 (v := .int .i64 0) rfl rfl rfl (by go_simp) ?_
          first | refine wpT_fin ?_ | dsimp only [wpT]
          try simp only [Act.put, List.setIfInBounds_toArray, List.set_cons_succ, List.set_cons_zero]
          go_wp2_with fail
          obtain ⟨hXe, MOe, hde⟩ := Ka2 _ _ Mwa2
          have MOe := MOe.sub (H' := []) (by simp)
          clear Ka2 Ka1 K9 Kt Mwa2
          go_loopw [95] (fun t wr => ∃ j : Nat, j ≤ m2 ∧ t = .int .i64 j ∧ Mm no w [] wr ∧ LX wr B b room M2 u2 ∧ (AO wr B Lb (.slice ya m2 yc) ∧ Lb.map It.ab = M2)) (fun t _ => m2 - (intOf t).toNat)
          case atStart => exact ⟨0, by omega, rfl, MOe, hXe.1, hXe.2⟩
          case round =>
            clear MOe hXe hde
            obtain ⟨j, hj, rfl, MO, hXL, hXA⟩ := hrel
            by_cases hjm : j < m2
            · have hltj : (j : Int) < (m2 : Int) := by omega
              have hj00 : (0 : Int) ≤ (j : Int) := by omega
              have hlb : Lb.length = m2 := by rw [← HM2.out, ← hXA.2, List.length_map]
              obtain ⟨y, hy⟩ : ∃ y, Lb[j]? = some y := ⟨_, List.getElem?_eq_getElem (by omega)⟩
              have hok2 := HOK2.out (y.too, y.l) (by rw [← hXA.2]; exact List.mem_map.2 ⟨y, List.mem_of_getElem? hy, rfl⟩)
              have hyt0 : ¬ y.too < 0 := by have := hok2.2.1; dsimp only at this; omega
              have hyt1 : ¬ 16 ≤ y.too := by have := hok2.2.2; dsimp only at this; omega
              obtain ⟨yg, c, e⟩ := ow_some hXA.1.ow (by omega)
              injection e with e1 e2 e3
              subst e1
              clear e2 e3 hok2
              have HEQ : Hid (∀ v : World, (AO v B Lb (.slice (some ⟨yg, 0, none⟩) m2 yc) ∧ Lb.map It.ab = M2) → exLoad Try.prog 72 (.pointer (some ⟨yg, j * 2, none⟩)) v = .ok (.value (.agg (ITR y.too (.slice (some ⟨y.g, 0, none⟩) 736 y.c)))) v) := hid fun v h => by
                have := h.1.ow.sv
                rw [hlb] at this
                have := sv_itm this hy
                rwa [Nat.zero_add] at this
              obtain ⟨j1, hj1⟩ : ∃ k, k = j + 1 := ⟨_, rfl⟩
              have HJ1 := hid (show IntKind.i64.wrap ((j : Int) + 1) = (j1 : Int) by rw [i64w (by omega) (by omega), hj1]; rfl)
              have HJJ := hid hj1
              obtain ⟨Sq, M, Kq⟩ := MO.keep ((LX.stb B b room M2 u2).and (AOM.stb B Lb (.slice (some ⟨yg, 0, none⟩) m2 yc) M2)) ⟨hXL, hXA⟩ (fun q hq => by cases hq)
              clear hy hj1 hlb MO hXL hXA
              go_upto_region 25 with fail
              refine wp_region_lin (.op 0 .done) (by rfl) ?_
              refine wpT_valp 96 (v := .bool true) rfl rfl rfl (by go_simp) ?_
              first | refine wpT_fin ?_ | dsimp only [wpT]
              try simp only [Act.put, List.setIfInBounds_toArray, List.set_cons_succ, List.set_cons_zero]
              go_upto_region 26 with fail
              refine wp_region_lin (.op 0 (.op 1 (.op 2 (.op 3 .done)))) (by rfl) ?_
              refine wpT_valp 97 (v := .pointer (some ⟨yg, j * 2, none⟩)) rfl rfl rfl (by go_simp) ?_
              refine wpT_ldy 98 (.pointer (some ⟨yg, j * 2, none⟩)) (.agg (ITR y.too (.slice (some ⟨y.g, 0, none⟩) 736 y.c))) rfl rfl rfl (by go_simp) (HEQ.out _ (Kq _ _ M).1.2) rfl ?_
              refine wpT_new (z := .agg (ITR 0 (.slice none 0 0))) 11 M (by kernel_rfl) (by decide) rfl rfl rfl rfl (fun b1 w2 M3 => ?_)
              try dsimp only [Value.cells] at M3
              refine wpT_st0 M3 0 (ITR y.too (.slice (some ⟨y.g, 0, none⟩) 736 y.c)) inf_itm rfl rfl rfl rfl (by go_simp) (by go_simp) (by simp [ITR_size, STR_size, RSR_size, AC6_size]) (by simp [ITR_size, STR_size, RSR_size, AC6_size]) (by simp [go_sem]) rfl (fun w4 M5 => ?_)
              dsimp only [List.set] at M5
              first | refine wpT_fin ?_ | dsimp only [wpT]
              try simp only [Act.put, List.setIfInBounds_toArray, List.set_cons_succ, List.set_cons_zero]
              go_upto_region 27 with fail
              refine wp_region_lin (.op 0 (.op 1 (.op 2 (.op 3 (.op 4 (.op 5 (.op 6 (.op 7 (.op 8 (.op 9 (.op 10 (.op 11 (.op 12 (.op 13 .done)))))))))))))) (by rfl) ?_
              refine wpT_valp 99 (v := .pointer (some ⟨b1, 1, none⟩)) rfl rfl rfl (by go_simp) ?_
              refine wpT_valp 100 (v := .slice (some ⟨y.g, 0, none⟩) 736 y.c) rfl rfl rfl (by have c0 := it_c1 (M5.row (b := b1) (c := ITR y.too (.slice (some ⟨y.g, 0, none⟩) 736 y.c)) (by simp)); go_simp) ?_
              refine wpT_valp 101 (v := .int .i64 736) rfl rfl rfl (by go_simp) ?_
              refine wpT_valp 102 (v := .bool false) rfl rfl rfl (by go_simp) ?_
              try simp only [Act.put, List.setIfInBounds_toArray, List.set_cons_succ, List.set_cons_zero]
              refine wpT_valp 103 (v := .bool false) rfl rfl rfl (by go_simp) ?_
              refine wpT_valp 104 (v := .pointer (some ⟨b1, 0, none⟩)) rfl rfl (by simp [Region.wanted, yielded, Act.put]) (by go_simp) ?_
              refine wpT_valp 105 (v := .int .i64 y.too) rfl rfl (by simp [Region.wanted, yielded, Act.put]) (by have c0 := it_c0 (M5.row (b := b1) (c := ITR y.too (.slice (some ⟨y.g, 0, none⟩) 736 y.c)) (by simp)); go_simp) ?_
              refine wpT_valp 106 (v := .bool false) rfl rfl (by simp [Region.wanted, yielded, Act.put]) (by go_simp) ?_
              refine wpT_valp 107 (v := .bool false) rfl rfl rfl (by go_simp) ?_
              try simp only [Act.put, List.setIfInBounds_toArray, List.set_cons_succ, List.set_cons_zero]
              refine wpT_valp 108 (v := .bool false) rfl rfl rfl (by go_simp) ?_
              refine wpT_valp 109 (v := .pointer (some ⟨b1, 0, none⟩)) rfl rfl (by simp [Region.wanted, yielded, Act.put]) (by go_simp) ?_
              refine wpT_valp 110 (v := .int .i64 y.too) rfl rfl (by simp [Region.wanted, yielded, Act.put]) (by have c0 := it_c0 (M5.row (b := b1) (c := ITR y.too (.slice (some ⟨y.g, 0, none⟩) 736 y.c)) (by simp)); go_simp) ?_
              refine wpT_valp 111 (v := .bool false) rfl rfl (by simp [Region.wanted, yielded, Act.put]) (by go_simp) ?_
              refine wpT_valp 112 (v := .bool false) rfl rfl rfl (by go_simp) ?_
              first | refine wpT_fin ?_ | dsimp only [wpT]
              try simp only [Act.put, List.setIfInBounds_toArray, List.set_cons_succ, List.set_cons_zero]
              go_upto_region 29 with fail
              refine wp_region_lin (.op 0 (.op 1 .done)) (by rfl) ?_
              refine wpT_valp 113 (v := .int .i64 j1) rfl rfl rfl (by have h := HJ1.out; go_simp) ?_
              refine wpT_valp 95 (v := .int .i64 j1) rfl rfl rfl (by go_simp) ?_
              first | refine wpT_fin ?_ | dsimp only [wpT]
              try simp only [Act.put, List.setIfInBounds_toArray, List.set_cons_succ, List.set_cons_zero]
              go_wp2_with fail
              go_roundw
              case rel => exact ⟨j1, by have := HJJ.out; omega, rfl, (Kq _ _ M5).2.1.sub (H' := []) (by simp), (Kq _ _ M5).1.1, (Kq _ _ M5).1.2⟩
              case measure => have := HJJ.out; simp only [intOf]; omega
            · obtain rfl : m2 = j := by omega
              have HXL := hid hXL
              have HOM := hid MO
              have M := MO
              clear hXL hXA MO
              go_upto_region 25 with fail
              refine wp_region_lin (.op 0 .done) (by rfl) ?_
              refine wpT_valp 96 (v := .bool false) rfl rfl rfl (by go_simp) ?_
              first | refine wpT_fin ?_ | dsimp only [wpT]
              try simp only [Act.put, List.setIfInBounds_toArray, List.set_cons_succ, List.set_cons_zero]
              go_upto_region 8 with fail
              refine wp_region_lin (.op 0 (.op 1 (.op 2 .done))) (by rfl) ?_
              refine wpT_valp 28 (v := .int .i64 i) rfl rfl rfl (by go_simp) ?_
              refine wpT_valp 29 (v := .int .i64 i1) rfl rfl rfl (by have h := HI1.out; go_simp) ?_
              refine wpT_valp 6 (v := .int .i64 i1) rfl rfl rfl (by go_simp) ?_
              first | refine wpT_fin ?_ | dsimp only [wpT]
              try simp only [Act.put, List.setIfInBounds_toArray, List.set_cons_succ, List.set_cons_zero]
              go_wp2_with fail
              go_roundw
              case rel => exact ⟨i1, M2, u2, by have := HII.out; omega, rfl, HOM.out, HXL.out, HOK2.out, HLE2.out⟩
              case measure => have := HII.out; simp only [intOf]; omega
        by_cases h6 : r = 6
        · subst h6
          obtain ⟨⟨M2, q2⟩, hres⟩ : ∃ z, Lk.twice room.toNat Ml x.at_ = z := ⟨_, rfl⟩
          have HRES := hid hres
          have hok2 := HOKM.out.twice (room := room.toNat) (i := x.at_)
          have hle2 := Lk.twice_len (i := x.at_) HLE.out
          rw [hres] at hok2 hle2
          have HOK2 := hid (show Lk.Ok M2 from hok2)
          have HLE2 := hid (show M2.length ≤ room.toNat from hle2)
          obtain ⟨m2, hm2⟩ : ∃ m, M2.length = m := ⟨_, rfl⟩
          have HM2 := hid hm2
          have hm29 : M2.length ≤ 5000 := by have := HLE2.out; omega
          have hrm2 : ¬ room < (m2 : Int) := by have := HLE2.out; omega
          have hm2c : m2 ≤ 5000 := by omega
          clear hres hok2 hle2 hm2
          go_upto_region 7 with fail
          refine wp_region_lin (.op 0 (.op 1 (.op 2 (.op 3 (.op 4 (.op 5 (.op 6 (.op 7 .done)))))))) (by rfl) ?_
          refine wpT_valp 20 (v := .int .i64 i) rfl rfl rfl (by go_simp) ?_
          refine wpT_valp 21 (v := .slice (some ⟨gu, uo, none⟩) n uc) rfl rfl rfl (by go_simp) ?_
          refine wpT_valp 22 (v := .int .i64 n) rfl rfl rfl (by go_simp) ?_
          refine wpT_valp 23 (v := .bool true) rfl rfl rfl (by go_simp) ?_
          try simp only [Act.put, List.setIfInBounds_toArray, List.set_cons_succ, List.set_cons_zero]
          refine wpT_valp 24 (v := .bool true) rfl rfl rfl (by go_simp) ?_
          refine wpT_valp 25 (v := .int .i64 i) rfl rfl (by simp [Region.wanted, yielded, Act.put]) (by go_simp) ?_
          refine wpT_valp 26 (v := .bool true) rfl rfl (by simp [Region.wanted, yielded, Act.put]) (by go_simp) ?_
          refine wpT_valp 27 (v := .bool true) rfl rfl rfl (by go_simp) ?_
          first | refine wpT_fin ?_ | dsimp only [wpT]
          try simp only [Act.put, List.setIfInBounds_toArray, List.set_cons_succ, List.set_cons_zero]
          go_upto_region 9 with fail
          refine wp_region_lin (.op 0 (.op 1 (.op 2 (.op 3 (.op 4 (.op 5 .done)))))) (by rfl) ?_
          refine wpT_valp 30 (v := .slice (some ⟨gu, uo, none⟩) n uc) rfl rfl rfl (by go_simp) ?_
          refine wpT_valp 31 (v := .int .i64 i) rfl rfl rfl (by go_simp) ?_
          refine wpT_valp 32 (v := .pointer (some ⟨gu, uo + i * 6, none⟩)) rfl rfl rfl (by go_simp) ?_
          refine wpT_ldy 33 (.pointer (some ⟨gu, uo + i * 6, none⟩)) (.agg (AC6 x)) rfl rfl rfl (by go_simp) (HEL.out _ (K0 _ _ M).2.1.end_) rfl ?_
          try simp only [Act.put, List.setIfInBounds_toArray, List.set_cons_succ, List.set_cons_zero]
          refine wpT_new (z := .agg (AC6 A6.zero)) 7 M (by kernel_rfl) (by decide) rfl rfl rfl rfl (fun b1 w2 M3 => ?_)
          try dsimp only [Value.cells] at M3
          refine wpT_st0 M3 0 (AC6 x) inf_ac6 rfl rfl rfl rfl (by go_simp) (by go_simp) (by simp [ITR_size, STR_size, RSR_size, AC6_size]) (by simp [ITR_size, STR_size, RSR_size, AC6_size]) (by simp [go_sem]) rfl (fun w4 M5 => ?_)
          dsimp only [List.set] at M5
          first | refine wpT_fin ?_ | dsimp only [wpT]
          try simp only [Act.put, List.setIfInBounds_toArray, List.set_cons_succ, List.set_cons_zero]
          go_upto_region 10 with fail
          refine wp_region_lin (.op 0 (.op 1 (.op 2 .done))) (by rfl) ?_
          refine wpT_valp 34 (v := .pointer (some ⟨b1, 0, none⟩)) rfl rfl rfl (by go_simp) ?_
          refine wpT_valp 35 (v := .int .u8 x.q) rfl rfl rfl (by have c0 := a6_c0 (M5.row (b := b1) (c := AC6 x) (by simp)); go_simp) ?_
          refine wpT_valp 36 (v := .int .u8 6) rfl rfl rfl (by have h := HQ.out; go_simp) ?_
          first | refine wpT_fin ?_ | dsimp only [wpT]
          try simp only [Act.put, List.setIfInBounds_toArray, List.set_cons_succ, List.set_cons_zero]
          go_upto_region 14 with fail
          refine wp_region_lin (.op 0 (.op 1 .done)) (by rfl) ?_
          refine wpT_valp 51 (v := .bool false) rfl rfl rfl (by go_simp) ?_
          refine wpT_valp 50 (v := .bool false) rfl rfl rfl (by go_simp) ?_
          first | refine wpT_fin ?_ | dsimp only [wpT]
          try simp only [Act.put, List.setIfInBounds_toArray, List.set_cons_succ, List.set_cons_zero]
          go_upto_region 16 with fail
          refine wp_region_lin (.op 0 (.op 1 .done)) (by rfl) ?_
          refine wpT_valp 57 (v := .bool false) rfl rfl rfl (by go_simp) ?_
          refine wpT_valp 56 (v := .bool false) rfl rfl rfl (by go_simp) ?_
          first | refine wpT_fin ?_ | dsimp only [wpT]
          try simp only [Act.put, List.setIfInBounds_toArray, List.set_cons_succ, List.set_cons_zero]
          go_upto_region 18 with fail
          refine wp_region_lin (.op 0 (.op 1 .done)) (by rfl) ?_
          refine wpT_valp 63 (v := .bool true) rfl rfl rfl (by go_simp) ?_
          refine wpT_valp 62 (v := .bool true) rfl rfl rfl (by go_simp) ?_
          first | refine wpT_fin ?_ | dsimp only [wpT]
          try simp only [Act.put, List.setIfInBounds_toArray, List.set_cons_succ, List.set_cons_zero]
          go_upto_region 19 with fail
          refine wp_region_lin (.op 0 (.op 1 (.op 2 (.op 3 .done)))) (by rfl) ?_
          refine wpT_valp 64 (v := .pointer (some ⟨b, 0, none⟩)) rfl rfl rfl (by go_simp) ?_
          refine wpT_valp 65 (v := .pointer (some ⟨b1, 2, none⟩)) rfl rfl rfl (by go_simp) ?_
          refine wpT_valp 66 (v := .int .i64 x.at_) rfl rfl rfl (by have c0 := a6_c2 (M5.row (b := b1) (c := AC6 x) (by simp)); go_simp) ?_
          refine wpT_obj (U := List It × Value) (fun u2 => .int .i64 q2) (fun u2 => LF b u2.2 u2.1) (fun u2 w => LX w B b room M2 u2) (some 67) M5 K0 F0 rfl rfl rfl (by first | (go_simp; done) | (go_simp; rfl)) (fun hX => ltwice_e _ hX hrm x.at_ hm9 HRES.out) (fun u2 => LX.stb _ _ _ _ _) (fun u2 w2 Sw2 Mw2 K2 F2 => ?_)
          first | refine wpT_fin ?_ | dsimp only [wpT]
          try simp only [Act.put, List.setIfInBounds_toArray, List.set_cons_succ, List.set_cons_zero]
          go_upto_region 22 with fail
          obtain ⟨hXt, MOt, hdt⟩ := K2 _ _ Mw2
          have Ft : ∀ g, LF b u2.2 u2.1 g → no g ∨ w.heap.size ≤ g := fun g h => .inr (by have := (hXt.1.lt g h).1; rw [HB.out] at this; exact this)
          obtain ⟨St, Mt, Kt⟩ := MOt.keep (LX.stb B b room M2 u2) hXt (fun q hq h => hdt q hq h)
          clear hXt MOt hdt
          refine wp_region_lin (.op 0 (.op 1 (.op 2 (.op 3 (.op 4 (.op 5 (.op 6 (.op 7 (.op 8 (.op 9 (.op 10 (.op 11 (.op 12 (.op 13 .done)))))))))))))) (by rfl) ?_
          refine wpT_valp 78 (v := .pointer (some ⟨b, 0, none⟩)) rfl rfl rfl (by go_simp) ?_
          refine wpT_callv 79 Mt (v := .int .i64 m2) rfl rfl rfl (by go_simp) (llen_e w2 (Kt _ _ Mt).1 HM2.out) (fun w6 M7 => ?_)
          refine wpT_valp 80 (v := .int .u8 sz) rfl rfl rfl (by go_simp) ?_
          refine wpT_valp 81 (v := .int .i64 sz) rfl rfl rfl (by have h := HSZ0.out; go_simp) ?_
          try simp only [Act.put, List.setIfInBounds_toArray, List.set_cons_succ, List.set_cons_zero]
          refine wpT_valp 82 (v := .int .i64 room) rfl rfl rfl (by have h := HRM.out; go_simp) ?_
          refine wpT_valp 83 (v := .bool false) rfl rfl rfl (by go_simp) ?_
          refine wpT_valp 84 (v := .bool false) rfl rfl rfl (by go_simp) ?_
          refine wpT_valp 85 (v := .pointer (some ⟨b, 0, none⟩)) rfl rfl (by simp [Region.wanted, yielded, Act.put]) (by go_simp) ?_
          refine wpT_objN (U := List It × Value) (fun ua1 => ua1.2) (fun ua1 => AF ua1.2 ua1.1) (fun ua1 w => AO w B ua1.1 ua1.2 ∧ ua1.1.map It.ab = M2) (some 86) M7 Kt Ft (LX.stb _ _ _ _ _) rfl rfl (by simp [Region.wanted, yielded, Act.put]) (by go_simp) (fun hX => lall_e _ hX hm29) (fun ua1 => AOM.stb _ _ _ _) (fun ua1 wa1 Swa1 Mwa1 Ka1 Fa1 => ?_)
          obtain ⟨xa, xc, hxa⟩ := aom_shape (Ka1 _ _ Mwa1).1.2 HM2.out
          obtain ⟨La, va⟩ := ua1
          dsimp only at hxa
          subst hxa
          try simp only [Act.put, List.setIfInBounds_toArray, List.set_cons_succ, List.set_cons_zero]
          refine wpT_valp 87 (v := .int .i64 m2) rfl rfl (by simp [Region.wanted, yielded, Act.put]) (by go_simp) ?_
          refine wpT_valp 88 (v := .pointer (some ⟨b, 0, none⟩)) rfl rfl (by simp [Region.wanted, yielded, Act.put]) (by go_simp) ?_
          refine wpT_callv 89 Mwa1 (v := .int .i64 m2) rfl rfl (by simp [Region.wanted, yielded, Act.put]) (by go_simp) (llen_e wa1 (Ka1 _ _ Mwa1).1.1 HM2.out) (fun w8 M9 => ?_)
          refine wpT_valp 90 (v := .bool false) rfl rfl (by simp [Region.wanted, yielded, Act.put]) (by go_simp) ?_
          refine wpT_valp 91 (v := .bool false) rfl rfl rfl (by go_simp) ?_
          first | refine wpT_fin ?_ | dsimp only [wpT]
          try simp only [Act.put, List.setIfInBounds_toArray, List.set_cons_succ, List.set_cons_zero]
          go_upto_region 24 with fail
          obtain ⟨hXt, MOt, hdt⟩ := Ka1 _ _ M9
          obtain ⟨S9, M9, K9⟩ := MOt.keep (LX.stb B b room M2 u2) hXt.1 (fun q hq h => hdt q hq (.inl h))
          clear hXt MOt hdt
          refine wp_region_lin (.op 0 (.op 1 (.op 2 (.op 3 .done)))) (by rfl) ?_
          refine wpT_valp 92 (v := .pointer (some ⟨b, 0, none⟩)) rfl rfl rfl (by go_simp) ?_
          refine wpT_objN (U := List It × Value) (fun ua2 => ua2.2) (fun ua2 => AF ua2.2 ua2.1) (fun ua2 w => AO w B ua2.1 ua2.2 ∧ ua2.1.map It.ab = M2) (some 93) M9 K9 Ft (LX.stb _ _ _ _ _) rfl rfl rfl (by go_simp) (fun hX => lall_e _ hX hm29) (fun ua2 => AOM.stb _ _ _ _) (fun ua2 wa2 Swa2 Mwa2 Ka2 Fa2 => ?_)
          obtain ⟨ya, yc, hya⟩ := aom_shape (Ka2 _ _ Mwa2).1.2 HM2.out
          obtain ⟨Lb, vb⟩ := ua2
          dsimp only at hya
          subst hya
          refine wpT_valp 94 (v := .int .i64 m2) rfl rfl rfl (by go_simp) ?_
          refine wpT_valp 95 (v := .int .i64 0) rfl rfl rfl (by go_simp) ?_
          first | refine wpT_fin ?_ | dsimp only [wpT]
          try simp only [Act.put, List.setIfInBounds_toArray, List.set_cons_succ, List.set_cons_zero]
          go_wp2_with fail
          obtain ⟨hXe, MOe, hde⟩ := Ka2 _ _ Mwa2
          have MOe := MOe.sub (H' := []) (by simp)
          clear Ka2 Ka1 K9 Kt Mwa2
          go_loopw [95] (fun t wr => ∃ j : Nat, j ≤ m2 ∧ t = .int .i64 j ∧ Mm no w [] wr ∧ LX wr B b room M2 u2 ∧ (AO wr B Lb (.slice ya m2 yc) ∧ Lb.map It.ab = M2)) (fun t _ => m2 - (intOf t).toNat)
          case atStart => exact ⟨0, by omega, rfl, MOe, hXe.1, hXe.2⟩
          case round =>
            clear MOe hXe hde
            obtain ⟨j, hj, rfl, MO, hXL, hXA⟩ := hrel
            by_cases hjm : j < m2
            · have hltj : (j : Int) < (m2 : Int) := by omega
              have hj00 : (0 : Int) ≤ (j : Int) := by omega
              have hlb : Lb.length = m2 := by rw [← HM2.out, ← hXA.2, List.length_map]
              obtain ⟨y, hy⟩ : ∃ y, Lb[j]? = some y := ⟨_, List.getElem?_eq_getElem (by omega)⟩
              have hok2 := HOK2.out (y.too, y.l) (by rw [← hXA.2]; exact List.mem_map.2 ⟨y, List.mem_of_getElem? hy, rfl⟩)
              have hyt0 : ¬ y.too < 0 := by have := hok2.2.1; dsimp only at this; omega
              have hyt1 : ¬ 16 ≤ y.too := by have := hok2.2.2; dsimp only at this; omega
              obtain ⟨yg, c, e⟩ := ow_some hXA.1.ow (by omega)
              injection e with e1 e2 e3
              subst e1
              clear e2 e3 hok2
              have HEQ : Hid (∀ v : World, (AO v B Lb (.slice (some ⟨yg, 0, none⟩) m2 yc) ∧ Lb.map It.ab = M2) → exLoad Try.prog 72 (.pointer (some ⟨yg, j * 2, none⟩)) v = .ok (.value (.agg (ITR y.too (.slice (some ⟨y.g, 0, none⟩) 736 y.c)))) v) := hid fun v h => by
                have := h.1.ow.sv
                rw [hlb] at this
                have := sv_itm this hy
                rwa [Nat.zero_add] at this
              obtain ⟨j1, hj1⟩ : ∃ k, k = j + 1 := ⟨_, rfl⟩
              have HJ1 := hid (show IntKind.i64.wrap ((j : Int) + 1) = (j1 : Int) by rw [i64w (by omega) (by omega), hj1]; rfl)
              have HJJ := hid hj1
              obtain ⟨Sq, M, Kq⟩ := MO.keep ((LX.stb B b room M2 u2).and (AOM.stb B Lb (.slice (some ⟨yg, 0, none⟩) m2 yc) M2)) ⟨hXL, hXA⟩ (fun q hq => by cases hq)
              clear hy hj1 hlb MO hXL hXA
              go_upto_region 25 with fail
              refine wp_region_lin (.op 0 .done) (by rfl) ?_
              refine wpT_valp 96 (v := .bool true) rfl rfl rfl (by go_simp) ?_
              first | refine wpT_fin ?_ | dsimp only [wpT]
              try simp only [Act.put, List.setIfInBounds_toArray, List.set_cons_succ, List.set_cons_zero]
              go_upto_region 26 with fail
              refine wp_region_lin (.op 0 (.op 1 (.op 2 (.op 3 .done)))) (by rfl) ?_
              refine wpT_valp 97 (v := .pointer (some ⟨yg, j * 2, none⟩)) rfl rfl rfl (by go_simp) ?_
              refine wpT_ldy 98 (.pointer (some ⟨yg, j * 2, none⟩)) (.agg (ITR y.too (.slice (some ⟨y.g, 0, none⟩) 736 y.c))) rfl rfl rfl (by go_simp) (HEQ.out _ (Kq _ _ M).1.2) rfl ?_
              refine wpT_new (z := .agg (ITR 0 (.slice none 0 0))) 11 M (by kernel_rfl) (by decide) rfl rfl rfl rfl (fun b1 w2 M3 => ?_)
              try dsimp only [Value.cells] at M3
              refine wpT_st0 M3 0 (ITR y.too (.slice (some ⟨y.g, 0, none⟩) 736 y.c)) inf_itm rfl rfl rfl rfl (by go_simp) (by go_simp) (by simp [ITR_size, STR_size, RSR_size, AC6_size]) (by simp [ITR_size, STR_size, RSR_size, AC6_size]) (by simp [go_sem]) rfl (fun w4 M5 => ?_)
              dsimp only [List.set] at M5
              first | refine wpT_fin ?_ | dsimp only [wpT]
              try simp only [Act.put, List.setIfInBounds_toArray, List.set_cons_succ, List.set_cons_zero]
              go_upto_region 27 with fail
              refine wp_region_lin (.op 0 (.op 1 (.op 2 (.op 3 (.op 4 (.op 5 (.op 6 (.op 7 (.op 8 (.op 9 (.op 10 (.op 11 (.op 12 (.op 13 .done)))))))))))))) (by rfl) ?_
              refine wpT_valp 99 (v := .pointer (some ⟨b1, 1, none⟩)) rfl rfl rfl (by go_simp) ?_
              refine wpT_valp 100 (v := .slice (some ⟨y.g, 0, none⟩) 736 y.c) rfl rfl rfl (by have c0 := it_c1 (M5.row (b := b1) (c := ITR y.too (.slice (some ⟨y.g, 0, none⟩) 736 y.c)) (by simp)); go_simp) ?_
              refine wpT_valp 101 (v := .int .i64 736) rfl rfl rfl (by go_simp) ?_
              refine wpT_valp 102 (v := .bool false) rfl rfl rfl (by go_simp) ?_
              try simp only [Act.put, List.setIfInBounds_toArray, List.set_cons_succ, List.set_cons_zero]
              refine wpT_valp 103 (v := .bool false) rfl rfl rfl (by go_simp) ?_
              refine wpT_valp 104 (v := .pointer (some ⟨b1, 0, none⟩)) rfl rfl (by simp [Region.wanted, yielded, Act.put]) (by go_simp) ?_
              refine wpT_valp 105 (v := .int .i64 y.too) rfl rfl (by simp [Region.wanted, yielded, Act.put]) (by have c0 := it_c0 (M5.row (b := b1) (c := ITR y.too (.slice (some ⟨y.g, 0, none⟩) 736 y.c)) (by simp)); go_simp) ?_
              refine wpT_valp 106 (v := .bool false) rfl rfl (by simp [Region.wanted, yielded, Act.put]) (by go_simp) ?_
              refine wpT_valp 107 (v := .bool false) rfl rfl rfl (by go_simp) ?_
              try simp only [Act.put, List.setIfInBounds_toArray, List.set_cons_succ, List.set_cons_zero]
              refine wpT_valp 108 (v := .bool false) rfl rfl rfl (by go_simp) ?_
              refine wpT_valp 109 (v := .pointer (some ⟨b1, 0, none⟩)) rfl rfl (by simp [Region.wanted, yielded, Act.put]) (by go_simp) ?_
              refine wpT_valp 110 (v := .int .i64 y.too) rfl rfl (by simp [Region.wanted, yielded, Act.put]) (by have c0 := it_c0 (M5.row (b := b1) (c := ITR y.too (.slice (some ⟨y.g, 0, none⟩) 736 y.c)) (by simp)); go_simp) ?_
              refine wpT_valp 111 (v := .bool false) rfl rfl (by simp [Region.wanted, yielded, Act.put]) (by go_simp) ?_
              refine wpT_valp 112 (v := .bool false) rfl rfl rfl (by go_simp) ?_
              first | refine wpT_fin ?_ | dsimp only [wpT]
              try simp only [Act.put, List.setIfInBounds_toArray, List.set_cons_succ, List.set_cons_zero]
              go_upto_region 29 with fail
              refine wp_region_lin (.op 0 (.op 1 .done)) (by rfl) ?_
              refine wpT_valp 113 (v := .int .i64 j1) rfl rfl rfl (by have h := HJ1.out; go_simp) ?_
              refine wpT_valp 95 (v := .int .i64 j1) rfl rfl rfl (by go_simp) ?_
              first | refine wpT_fin ?_ | dsimp only [wpT]
              try simp only [Act.put, List.setIfInBounds_toArray, List.set_cons_succ, List.set_cons_zero]
              go_wp2_with fail
              go_roundw
              case rel => exact ⟨j1, by have := HJJ.out; omega, rfl, (Kq _ _ M5).2.1.sub (H' := []) (by simp), (Kq _ _ M5).1.1, (Kq _ _ M5).1.2⟩
              case measure => have := HJJ.out; simp only [intOf]; omega
            · obtain rfl : m2 = j := by omega
              have HXL := hid hXL
              have HOM := hid MO
              have M := MO
              clear hXL hXA MO
              go_upto_region 25 with fail
              refine wp_region_lin (.op 0 .done) (by rfl) ?_
              refine wpT_valp 96 (v := .bool false) rfl rfl rfl (by go_simp) ?_
              first | refine wpT_fin ?_ | dsimp only [wpT]
              try simp only [Act.put, List.setIfInBounds_toArray, List.set_cons_succ, List.set_cons_zero]
              go_upto_region 8 with fail
              refine wp_region_lin (.op 0 (.op 1 (.op 2 .done))) (by rfl) ?_
              refine wpT_valp 28 (v := .int .i64 i) rfl rfl rfl (by go_simp) ?_
              refine wpT_valp 29 (v := .int .i64 i1) rfl rfl rfl (by have h := HI1.out; go_simp) ?_
              refine wpT_valp 6 (v := .int .i64 i1) rfl rfl rfl (by go_simp) ?_
              first | refine wpT_fin ?_ | dsimp only [wpT]
              try simp only [Act.put, List.setIfInBounds_toArray, List.set_cons_succ, List.set_cons_zero]
              go_wp2_with fail
              go_roundw
              case rel => exact ⟨i1, M2, u2, by have := HII.out; omega, rfl, HOM.out, HXL.out, HOK2.out, HLE2.out⟩
              case measure => have := HII.out; simp only [intOf]; omega
        by_cases h7 : r = 7
        · subst h7
          obtain ⟨⟨M2, q2⟩, hres⟩ : ∃ z, Lk.turn Ml x.at_ x.byt x.by_ = z := ⟨_, rfl⟩
          have HRES := hid hres
          have hok2 := HOKM.out.turn (i := x.at_) (at_ := x.byt) (by_ := x.by_)
          have hle2 := Lk.turn_len (i := x.at_) (at_ := x.byt) (by_ := x.by_) HLE.out
          rw [hres] at hok2 hle2
          have HOK2 := hid (show Lk.Ok M2 from hok2)
          have HLE2 := hid (show M2.length ≤ room.toNat from hle2)
          obtain ⟨m2, hm2⟩ : ∃ m, M2.length = m := ⟨_, rfl⟩
          have HM2 := hid hm2
          have hm29 : M2.length ≤ 5000 := by have := HLE2.out; omega
          have hrm2 : ¬ room < (m2 : Int) := by have := HLE2.out; omega
          have hm2c : m2 ≤ 5000 := by omega
          clear hres hok2 hle2 hm2
          go_upto_region 7 with fail
          refine wp_region_lin (.op 0 (.op 1 (.op 2 (.op 3 (.op 4 (.op 5 (.op 6 (.op 7 .done)))))))) (by rfl) ?_
          refine wpT_valp 20 (v := .int .i64 i) rfl rfl rfl (by go_simp) ?_
          refine wpT_valp 21 (v := .slice (some ⟨gu, uo, none⟩) n uc) rfl rfl rfl (by go_simp) ?_
          refine wpT_valp 22 (v := .int .i64 n) rfl rfl rfl (by go_simp) ?_
          refine wpT_valp 23 (v := .bool true) rfl rfl rfl (by go_simp) ?_
          try simp only [Act.put, List.setIfInBounds_toArray, List.set_cons_succ, List.set_cons_zero]
          refine wpT_valp 24 (v := .bool true) rfl rfl rfl (by go_simp) ?_
          refine wpT_valp 25 (v := .int .i64 i) rfl rfl (by simp [Region.wanted, yielded, Act.put]) (by go_simp) ?_
          refine wpT_valp 26 (v := .bool true) rfl rfl (by simp [Region.wanted, yielded, Act.put]) (by go_simp) ?_
          refine wpT_valp 27 (v := .bool true) rfl rfl rfl (by go_simp) ?_
          first | refine wpT_fin ?_ | dsimp only [wpT]
          try simp only [Act.put, List.setIfInBounds_toArray, List.set_cons_succ, List.set_cons_zero]
          go_upto_region 9 with fail
          refine wp_region_lin (.op 0 (.op 1 (.op 2 (.op 3 (.op 4 (.op 5 .done)))))) (by rfl) ?_
          refine wpT_valp 30 (v := .slice (some ⟨gu, uo, none⟩) n uc) rfl rfl rfl (by go_simp) ?_
          refine wpT_valp 31 (v := .int .i64 i) rfl rfl rfl (by go_simp) ?_
          refine wpT_valp 32 (v := .pointer (some ⟨gu, uo + i * 6, none⟩)) rfl rfl rfl (by go_simp) ?_
          refine wpT_ldy 33 (.pointer (some ⟨gu, uo + i * 6, none⟩)) (.agg (AC6 x)) rfl rfl rfl (by go_simp) (HEL.out _ (K0 _ _ M).2.1.end_) rfl ?_
          try simp only [Act.put, List.setIfInBounds_toArray, List.set_cons_succ, List.set_cons_zero]
          refine wpT_new (z := .agg (AC6 A6.zero)) 7 M (by kernel_rfl) (by decide) rfl rfl rfl rfl (fun b1 w2 M3 => ?_)
          try dsimp only [Value.cells] at M3
          refine wpT_st0 M3 0 (AC6 x) inf_ac6 rfl rfl rfl rfl (by go_simp) (by go_simp) (by simp [ITR_size, STR_size, RSR_size, AC6_size]) (by simp [ITR_size, STR_size, RSR_size, AC6_size]) (by simp [go_sem]) rfl (fun w4 M5 => ?_)
          dsimp only [List.set] at M5
          first | refine wpT_fin ?_ | dsimp only [wpT]
          try simp only [Act.put, List.setIfInBounds_toArray, List.set_cons_succ, List.set_cons_zero]
          go_upto_region 10 with fail
          refine wp_region_lin (.op 0 (.op 1 (.op 2 .done))) (by rfl) ?_
          refine wpT_valp 34 (v := .pointer (some ⟨b1, 0, none⟩)) rfl rfl rfl (by go_simp) ?_
          refine wpT_valp 35 (v := .int .u8 x.q) rfl rfl rfl (by have c0 := a6_c0 (M5.row (b := b1) (c := AC6 x) (by simp)); go_simp) ?_
          refine wpT_valp 36 (v := .int .u8 7) rfl rfl rfl (by have h := HQ.out; go_simp) ?_
          first | refine wpT_fin ?_ | dsimp only [wpT]
          try simp only [Act.put, List.setIfInBounds_toArray, List.set_cons_succ, List.set_cons_zero]
          go_upto_region 14 with fail
          refine wp_region_lin (.op 0 (.op 1 .done)) (by rfl) ?_
          refine wpT_valp 51 (v := .bool false) rfl rfl rfl (by go_simp) ?_
          refine wpT_valp 50 (v := .bool false) rfl rfl rfl (by go_simp) ?_
          first | refine wpT_fin ?_ | dsimp only [wpT]
          try simp only [Act.put, List.setIfInBounds_toArray, List.set_cons_succ, List.set_cons_zero]
          go_upto_region 16 with fail
          refine wp_region_lin (.op 0 (.op 1 .done)) (by rfl) ?_
          refine wpT_valp 57 (v := .bool false) rfl rfl rfl (by go_simp) ?_
          refine wpT_valp 56 (v := .bool false) rfl rfl rfl (by go_simp) ?_
          first | refine wpT_fin ?_ | dsimp only [wpT]
          try simp only [Act.put, List.setIfInBounds_toArray, List.set_cons_succ, List.set_cons_zero]
          go_upto_region 18 with fail
          refine wp_region_lin (.op 0 (.op 1 .done)) (by rfl) ?_
          refine wpT_valp 63 (v := .bool false) rfl rfl rfl (by go_simp) ?_
          refine wpT_valp 62 (v := .bool false) rfl rfl rfl (by go_simp) ?_
          first | refine wpT_fin ?_ | dsimp only [wpT]
          try simp only [Act.put, List.setIfInBounds_toArray, List.set_cons_succ, List.set_cons_zero]
          go_upto_region 20 with fail
          refine wp_region_lin (.op 0 (.op 1 .done)) (by rfl) ?_
          refine wpT_valp 69 (v := .bool true) rfl rfl rfl (by go_simp) ?_
          refine wpT_valp 68 (v := .bool true) rfl rfl rfl (by go_simp) ?_
          first | refine wpT_fin ?_ | dsimp only [wpT]
          try simp only [Act.put, List.setIfInBounds_toArray, List.set_cons_succ, List.set_cons_zero]
          go_upto_region 21 with fail
          refine wp_region_lin (.op 0 (.op 1 (.op 2 (.op 3 (.op 4 (.op 5 (.op 6 (.op 7 .done)))))))) (by rfl) ?_
          refine wpT_valp 70 (v := .pointer (some ⟨b, 0, none⟩)) rfl rfl rfl (by go_simp) ?_
          refine wpT_valp 71 (v := .pointer (some ⟨b1, 2, none⟩)) rfl rfl rfl (by go_simp) ?_
          refine wpT_valp 72 (v := .int .i64 x.at_) rfl rfl rfl (by have c0 := a6_c2 (M5.row (b := b1) (c := AC6 x) (by simp)); go_simp) ?_
          refine wpT_valp 73 (v := .pointer (some ⟨b1, 4, none⟩)) rfl rfl rfl (by go_simp) ?_
          try simp only [Act.put, List.setIfInBounds_toArray, List.set_cons_succ, List.set_cons_zero]
          refine wpT_valp 74 (v := .int .i64 x.byt) rfl rfl rfl (by have c0 := a6_c4 (M5.row (b := b1) (c := AC6 x) (by simp)); go_simp) ?_
          refine wpT_valp 75 (v := .pointer (some ⟨b1, 1, none⟩)) rfl rfl rfl (by go_simp) ?_
          refine wpT_valp 76 (v := U8 x.by_) rfl rfl rfl (by have c0 := a6_c1 (M5.row (b := b1) (c := AC6 x) (by simp)); go_simp) ?_
          refine wpT_obj (U := List It × Value) (fun u2 => .int .i64 q2) (fun u2 => LF b u2.2 u2.1) (fun u2 w => LX w B b room M2 u2) (some 77) M5 K0 F0 rfl rfl rfl (by first | (go_simp; done) | (go_simp; rfl)) (fun hX => lturn_e _ hX hrm x.at_ x.byt x.by_ HRES.out) (fun u2 => LX.stb _ _ _ _ _) (fun u2 w2 Sw2 Mw2 K2 F2 => ?_)
          first | refine wpT_fin ?_ | dsimp only [wpT]
          try simp only [Act.put, List.setIfInBounds_toArray, List.set_cons_succ, List.set_cons_zero]
          go_upto_region 22 with fail
          obtain ⟨hXt, MOt, hdt⟩ := K2 _ _ Mw2
          have Ft : ∀ g, LF b u2.2 u2.1 g → no g ∨ w.heap.size ≤ g := fun g h => .inr (by have := (hXt.1.lt g h).1; rw [HB.out] at this; exact this)
          obtain ⟨St, Mt, Kt⟩ := MOt.keep (LX.stb B b room M2 u2) hXt (fun q hq h => hdt q hq h)
          clear hXt MOt hdt
          refine wp_region_lin (.op 0 (.op 1 (.op 2 (.op 3 (.op 4 (.op 5 (.op 6 (.op 7 (.op 8 (.op 9 (.op 10 (.op 11 (.op 12 (.op 13 .done)))))))))))))) (by rfl) ?_
          refine wpT_valp 78 (v := .pointer (some ⟨b, 0, none⟩)) rfl rfl rfl (by go_simp) ?_
          refine wpT_callv 79 Mt (v := .int .i64 m2) rfl rfl rfl (by go_simp) (llen_e w2 (Kt _ _ Mt).1 HM2.out) (fun w6 M7 => ?_)
          refine wpT_valp 80 (v := .int .u8 sz) rfl rfl rfl (by go_simp) ?_
          refine wpT_valp 81 (v := .int .i64 sz) rfl rfl rfl (by have h := HSZ0.out; go_simp) ?_
          try simp only [Act.put, List.setIfInBounds_toArray, List.set_cons_succ, List.set_cons_zero]
          refine wpT_valp 82 (v := .int .i64 room) rfl rfl rfl (by have h := HRM.out; go_simp) ?_
          refine wpT_valp 83 (v := .bool false) rfl rfl rfl (by go_simp) ?_
          refine wpT_valp 84 (v := .bool false) rfl rfl rfl (by go_simp) ?_
          refine wpT_valp 85 (v := .pointer (some ⟨b, 0, none⟩)) rfl rfl (by simp [Region.wanted, yielded, Act.put]) (by go_simp) ?_
          refine wpT_objN (U := List It × Value) (fun ua1 => ua1.2) (fun ua1 => AF ua1.2 ua1.1) (fun ua1 w => AO w B ua1.1 ua1.2 ∧ ua1.1.map It.ab = M2) (some 86) M7 Kt Ft (LX.stb _ _ _ _ _) rfl rfl (by simp [Region.wanted, yielded, Act.put]) (by go_simp) (fun hX => lall_e _ hX hm29) (fun ua1 => AOM.stb _ _ _ _) (fun ua1 wa1 Swa1 Mwa1 Ka1 Fa1 => ?_)
          obtain ⟨xa, xc, hxa⟩ := aom_shape (Ka1 _ _ Mwa1).1.2 HM2.out
          obtain ⟨La, va⟩ := ua1
          dsimp only at hxa
          subst hxa
          try simp only [Act.put, List.setIfInBounds_toArray, List.set_cons_succ, List.set_cons_zero]
          refine wpT_valp 87 (v := .int .i64 m2) rfl rfl (by simp [Region.wanted, yielded, Act.put]) (by go_simp) ?_
          refine wpT_valp 88 (v := .pointer (some ⟨b, 0, none⟩)) rfl rfl (by simp [Region.wanted, yielded, Act.put]) (by go_simp) ?_
          refine wpT_callv 89 Mwa1 (v := .int .i64 m2) rfl rfl (by simp [Region.wanted, yielded, Act.put]) (by go_simp) (llen_e wa1 (Ka1 _ _ Mwa1).1.1 HM2.out) (fun w8 M9 => ?_)
          refine wpT_valp 90 (v := .bool false) rfl rfl (by simp [Region.wanted, yielded, Act.put]) (by go_simp) ?_
          refine wpT_valp 91 (v := .bool false) rfl rfl rfl (by go_simp) ?_
          first | refine wpT_fin ?_ | dsimp only [wpT]
          try simp only [Act.put, List.setIfInBounds_toArray, List.set_cons_succ, List.set_cons_zero]
          go_upto_region 24 with fail
          obtain ⟨hXt, MOt, hdt⟩ := Ka1 _ _ M9
          obtain ⟨S9, M9, K9⟩ := MOt.keep (LX.stb B b room M2 u2) hXt.1 (fun q hq h => hdt q hq (.inl h))
          clear hXt MOt hdt
          refine wp_region_lin (.op 0 (.op 1 (.op 2 (.op 3 .done)))) (by rfl) ?_
          refine wpT_valp 92 (v := .pointer (some ⟨b, 0, none⟩)) rfl rfl rfl (by go_simp) ?_
          refine wpT_objN (U := List It × Value) (fun ua2 => ua2.2) (fun ua2 => AF ua2.2 ua2.1) (fun ua2 w => AO w B ua2.1 ua2.2 ∧ ua2.1.map It.ab = M2) (some 93) M9 K9 Ft (LX.stb _ _ _ _ _) rfl rfl rfl (by go_simp) (fun hX => lall_e _ hX hm29) (fun ua2 => AOM.stb _ _ _ _) (fun ua2 wa2 Swa2 Mwa2 Ka2 Fa2 => ?_)
          obtain ⟨ya, yc, hya⟩ := aom_shape (Ka2 _ _ Mwa2).1.2 HM2.out
          obtain ⟨Lb, vb⟩ := ua2
          dsimp only at hya
          subst hya
          refine wpT_valp 94 (v := .int .i64 m2) rfl rfl rfl (by go_simp) ?_
          refine wpT_valp 95 (v := .int .i64 0) rfl rfl rfl (by go_simp) ?_
          first | refine wpT_fin ?_ | dsimp only [wpT]
          try simp only [Act.put, List.setIfInBounds_toArray, List.set_cons_succ, List.set_cons_zero]
          go_wp2_with fail
          obtain ⟨hXe, MOe, hde⟩ := Ka2 _ _ Mwa2
          have MOe := MOe.sub (H' := []) (by simp)
          clear Ka2 Ka1 K9 Kt Mwa2
          go_loopw [95] (fun t wr => ∃ j : Nat, j ≤ m2 ∧ t = .int .i64 j ∧ Mm no w [] wr ∧ LX wr B b room M2 u2 ∧ (AO wr B Lb (.slice ya m2 yc) ∧ Lb.map It.ab = M2)) (fun t _ => m2 - (intOf t).toNat)
          case atStart => exact ⟨0, by omega, rfl, MOe, hXe.1, hXe.2⟩
          case round =>
            clear MOe hXe hde
            obtain ⟨j, hj, rfl, MO, hXL, hXA⟩ := hrel
            by_cases hjm : j < m2
            · have hltj : (j : Int) < (m2 : Int) := by omega
              have hj00 : (0 : Int) ≤ (j : Int) := by omega
              have hlb : Lb.length = m2 := by rw [← HM2.out, ← hXA.2, List.length_map]
              obtain ⟨y, hy⟩ : ∃ y, Lb[j]? = some y := ⟨_, List.getElem?_eq_getElem (by omega)⟩
              have hok2 := HOK2.out (y.too, y.l) (by rw [← hXA.2]; exact List.mem_map.2 ⟨y, List.mem_of_getElem? hy, rfl⟩)
              have hyt0 : ¬ y.too < 0 := by have := hok2.2.1; dsimp only at this; omega
              have hyt1 : ¬ 16 ≤ y.too := by have := hok2.2.2; dsimp only at this; omega
              obtain ⟨yg, c, e⟩ := ow_some hXA.1.ow (by omega)
              injection e with e1 e2 e3
              subst e1
              clear e2 e3 hok2
              have HEQ : Hid (∀ v : World, (AO v B Lb (.slice (some ⟨yg, 0, none⟩) m2 yc) ∧ Lb.map It.ab = M2) → exLoad Try.prog 72 (.pointer (some ⟨yg, j * 2, none⟩)) v = .ok (.value (.agg (ITR y.too (.slice (some ⟨y.g, 0, none⟩) 736 y.c)))) v) := hid fun v h => by
                have := h.1.ow.sv
                rw [hlb] at this
                have := sv_itm this hy
                rwa [Nat.zero_add] at this
              obtain ⟨j1, hj1⟩ : ∃ k, k = j + 1 := ⟨_, rfl⟩
              have HJ1 := hid (show IntKind.i64.wrap ((j : Int) + 1) = (j1 : Int) by rw [i64w (by omega) (by omega), hj1]; rfl)
              have HJJ := hid hj1
              obtain ⟨Sq, M, Kq⟩ := MO.keep ((LX.stb B b room M2 u2).and (AOM.stb B Lb (.slice (some ⟨yg, 0, none⟩) m2 yc) M2)) ⟨hXL, hXA⟩ (fun q hq => by cases hq)
              clear hy hj1 hlb MO hXL hXA
              go_upto_region 25 with fail
              refine wp_region_lin (.op 0 .done) (by rfl) ?_
              refine wpT_valp 96 (v := .bool true) rfl rfl rfl (by go_simp) ?_
              first | refine wpT_fin ?_ | dsimp only [wpT]
              try simp only [Act.put, List.setIfInBounds_toArray, List.set_cons_succ, List.set_cons_zero]
              go_upto_region 26 with fail
              refine wp_region_lin (.op 0 (.op 1 (.op 2 (.op 3 .done)))) (by rfl) ?_
              refine wpT_valp 97 (v := .pointer (some ⟨yg, j * 2, none⟩)) rfl rfl rfl (by go_simp) ?_
              refine wpT_ldy 98 (.pointer (some ⟨yg, j * 2, none⟩)) (.agg (ITR y.too (.slice (some ⟨y.g, 0, none⟩) 736 y.c))) rfl rfl rfl (by go_simp) (HEQ.out _ (Kq _ _ M).1.2) rfl ?_
              refine wpT_new (z := .agg (ITR 0 (.slice none 0 0))) 11 M (by kernel_rfl) (by decide) rfl rfl rfl rfl (fun b1 w2 M3 => ?_)
              try dsimp only [Value.cells] at M3
              refine wpT_st0 M3 0 (ITR y.too (.slice (some ⟨y.g, 0, none⟩) 736 y.c)) inf_itm rfl rfl rfl rfl (by go_simp) (by go_simp) (by simp [ITR_size, STR_size, RSR_size, AC6_size]) (by simp [ITR_size, STR_size, RSR_size, AC6_size]) (by simp [go_sem]) rfl (fun w4 M5 => ?_)
              dsimp only [List.set] at M5
              first | refine wpT_fin ?_ | dsimp only [wpT]
              try simp only [Act.put, List.setIfInBounds_toArray, List.set_cons_succ, List.set_cons_zero]
              go_upto_region 27 with fail
              refine wp_region_lin (.op 0 (.op 1 (.op 2 (.op 3 (.op 4 (.op 5 (.op 6 (.op 7 (.op 8 (.op 9 (.op 10 (.op 11 (.op 12 (.op 13 .done)))))))))))))) (by rfl) ?_
              refine wpT_valp 99 (v := .pointer (some ⟨b1, 1, none⟩)) rfl rfl rfl (by go_simp) ?_
              refine wpT_valp 100 (v := .slice (some ⟨y.g, 0, none⟩) 736 y.c) rfl rfl rfl (by have c0 := it_c1 (M5.row (b := b1) (c := ITR y.too (.slice (some ⟨y.g, 0, none⟩) 736 y.c)) (by simp)); go_simp) ?_
              refine wpT_valp 101 (v := .int .i64 736) rfl rfl rfl (by go_simp) ?_
              refine wpT_valp 102 (v := .bool false) rfl rfl rfl (by go_simp) ?_
              try simp only [Act.put, List.setIfInBounds_toArray, List.set_cons_succ, List.set_cons_zero]
              refine wpT_valp 103 (v := .bool false) rfl rfl rfl (by go_simp) ?_
              refine wpT_valp 104 (v := .pointer (some ⟨b1, 0, none⟩)) rfl rfl (by simp [Region.wanted, yielded, Act.put]) (by go_simp) ?_
              refine wpT_valp 105 (v := .int .i64 y.too) rfl rfl (by simp [Region.wanted, yielded, Act.put]) (by have c0 := it_c0 (M5.row (b := b1) (c := ITR y.too (.slice (some ⟨y.g, 0, none⟩) 736 y.c)) (by simp)); go_simp) ?_
              refine wpT_valp 106 (v := .bool false) rfl rfl (by simp [Region.wanted, yielded, Act.put]) (by go_simp) ?_
              refine wpT_valp 107 (v := .bool false) rfl rfl rfl (by go_simp) ?_
              try simp only [Act.put, List.setIfInBounds_toArray, List.set_cons_succ, List.set_cons_zero]
              refine wpT_valp 108 (v := .bool false) rfl rfl rfl (by go_simp) ?_
              refine wpT_valp 109 (v := .pointer (some ⟨b1, 0, none⟩)) rfl rfl (by simp [Region.wanted, yielded, Act.put]) (by go_simp) ?_
              refine wpT_valp 110 (v := .int .i64 y.too) rfl rfl (by simp [Region.wanted, yielded, Act.put]) (by have c0 := it_c0 (M5.row (b := b1) (c := ITR y.too (.slice (some ⟨y.g, 0, none⟩) 736 y.c)) (by simp)); go_simp) ?_
              refine wpT_valp 111 (v := .bool false) rfl rfl (by simp [Region.wanted, yielded, Act.put]) (by go_simp) ?_
              refine wpT_valp 112 (v := .bool false) rfl rfl rfl (by go_simp) ?_
              first | refine wpT_fin ?_ | dsimp only [wpT]
              try simp only [Act.put, List.setIfInBounds_toArray, List.set_cons_succ, List.set_cons_zero]
              go_upto_region 29 with fail
              refine wp_region_lin (.op 0 (.op 1 .done)) (by rfl) ?_
              refine wpT_valp 113 (v := .int .i64 j1) rfl rfl rfl (by have h := HJ1.out; go_simp) ?_
              refine wpT_valp 95 (v := .int .i64 j1) rfl rfl rfl (by go_simp) ?_
              first | refine wpT_fin ?_ | dsimp only [wpT]
              try simp only [Act.put, List.setIfInBounds_toArray, List.set_cons_succ, List.set_cons_zero]
              go_wp2_with fail
              go_roundw
              case rel => exact ⟨j1, by have := HJJ.out; omega, rfl, (Kq _ _ M5).2.1.sub (H' := []) (by simp), (Kq _ _ M5).1.1, (Kq _ _ M5).1.2⟩
              case measure => have := HJJ.out; simp only [intOf]; omega
            · obtain rfl : m2 = j := by omega
              have HXL := hid hXL
              have HOM := hid MO
              have M := MO
              clear hXL hXA MO
              go_upto_region 25 with fail
              refine wp_region_lin (.op 0 .done) (by rfl) ?_
              refine wpT_valp 96 (v := .bool false) rfl rfl rfl (by go_simp) ?_
              first | refine wpT_fin ?_ | dsimp only [wpT]
              try simp only [Act.put, List.setIfInBounds_toArray, List.set_cons_succ, List.set_cons_zero]
              go_upto_region 8 with fail
              refine wp_region_lin (.op 0 (.op 1 (.op 2 .done))) (by rfl) ?_
              refine wpT_valp 28 (v := .int .i64 i) rfl rfl rfl (by go_simp) ?_
              refine wpT_valp 29 (v := .int .i64 i1) rfl rfl rfl (by have h := HI1.out; go_simp) ?_
              refine wpT_valp 6 (v := .int .i64 i1) rfl rfl rfl (by go_simp) ?_
              first | refine wpT_fin ?_ | dsimp only [wpT]
              try simp only [Act.put, List.setIfInBounds_toArray, List.set_cons_succ, List.set_cons_zero]
              go_wp2_with fail
              go_roundw
              case rel => exact ⟨i1, M2, u2, by have := HII.out; omega, rfl, HOM.out, HXL.out, HOK2.out, HLE2.out⟩
              case measure => have := HII.out; simp only [intOf]; omega
        by_cases hmay : 0 ≤ x.n ∧ x.n ≤ 2000
        · obtain ⟨N, hN⟩ : ∃ N : Nat, x.n = N := ⟨x.n.toNat, by omega⟩
          have HYES := hid (show x.n = N ∧ N ≤ 2000 from ⟨hN, by omega⟩)
          clear hmay hN
          obtain ⟨⟨M2, q2⟩, hres⟩ : ∃ z, Lk.put room.toNat Ml (x.too, List.replicate N x.by_) = z := ⟨_, rfl⟩
          have HRES := hid hres
          have hok2 := HOKM.out.put (room := room.toNat) (x := (x.too, List.replicate N x.by_))
          have hle2 := Lk.put_len (x := (x.too, List.replicate N x.by_)) HLE.out
          rw [hres] at hok2 hle2
          have HOK2 := hid (show Lk.Ok M2 from hok2)
          have HLE2 := hid (show M2.length ≤ room.toNat from hle2)
          obtain ⟨m2, hm2⟩ : ∃ m, M2.length = m := ⟨_, rfl⟩
          have HM2 := hid hm2
          have hm29 : M2.length ≤ 5000 := by have := HLE2.out; omega
          have hrm2 : ¬ room < (m2 : Int) := by have := HLE2.out; omega
          have hm2c : m2 ≤ 5000 := by omega
          clear hres hok2 hle2 hm2
          go_upto_region 7 with fail
          refine wp_region_lin (.op 0 (.op 1 (.op 2 (.op 3 (.op 4 (.op 5 (.op 6 (.op 7 .done)))))))) (by rfl) ?_
          refine wpT_valp 20 (v := .int .i64 i) rfl rfl rfl (by go_simp) ?_
          refine wpT_valp 21 (v := .slice (some ⟨gu, uo, none⟩) n uc) rfl rfl rfl (by go_simp) ?_
          refine wpT_valp 22 (v := .int .i64 n) rfl rfl rfl (by go_simp) ?_
          refine wpT_valp 23 (v := .bool true) rfl rfl rfl (by go_simp) ?_
          try simp only [Act.put, List.setIfInBounds_toArray, List.set_cons_succ, List.set_cons_zero]
          refine wpT_valp 24 (v := .bool true) rfl rfl rfl (by go_simp) ?_
          refine wpT_valp 25 (v := .int .i64 i) rfl rfl (by simp [Region.wanted, yielded, Act.put]) (by go_simp) ?_
          refine wpT_valp 26 (v := .bool true) rfl rfl (by simp [Region.wanted, yielded, Act.put]) (by go_simp) ?_
          refine wpT_valp 27 (v := .bool true) rfl rfl rfl (by go_simp) ?_
          first | refine wpT_fin ?_ | dsimp only [wpT]
          try simp only [Act.put, List.setIfInBounds_toArray, List.set_cons_succ, List.set_cons_zero]
          go_upto_region 9 with fail
          refine wp_region_lin (.op 0 (.op 1 (.op 2 (.op 3 (.op 4 (.op 5 .done)))))) (by rfl) ?_
          refine wpT_valp 30 (v := .slice (some ⟨gu, uo, none⟩) n uc) rfl rfl rfl (by go_simp) ?_
          refine wpT_valp 31 (v := .int .i64 i) rfl rfl rfl (by go_simp) ?_
          refine wpT_valp 32 (v := .pointer (some ⟨gu, uo + i * 6, none⟩)) rfl rfl rfl (by go_simp) ?_
          refine wpT_ldy 33 (.pointer (some ⟨gu, uo + i * 6, none⟩)) (.agg (AC6 x)) rfl rfl rfl (by go_simp) (HEL.out _ (K0 _ _ M).2.1.end_) rfl ?_
          try simp only [Act.put, List.setIfInBounds_toArray, List.set_cons_succ, List.set_cons_zero]
          refine wpT_new (z := .agg (AC6 A6.zero)) 7 M (by kernel_rfl) (by decide) rfl rfl rfl rfl (fun b1 w2 M3 => ?_)
          try dsimp only [Value.cells] at M3
          refine wpT_st0 M3 0 (AC6 x) inf_ac6 rfl rfl rfl rfl (by go_simp) (by go_simp) (by simp [ITR_size, STR_size, RSR_size, AC6_size]) (by simp [ITR_size, STR_size, RSR_size, AC6_size]) (by simp [go_sem]) rfl (fun w4 M5 => ?_)
          dsimp only [List.set] at M5
          first | refine wpT_fin ?_ | dsimp only [wpT]
          try simp only [Act.put, List.setIfInBounds_toArray, List.set_cons_succ, List.set_cons_zero]
          go_upto_region 10 with fail
          refine wp_region_lin (.op 0 (.op 1 (.op 2 .done))) (by rfl) ?_
          refine wpT_valp 34 (v := .pointer (some ⟨b1, 0, none⟩)) rfl rfl rfl (by go_simp) ?_
          refine wpT_valp 35 (v := .int .u8 x.q) rfl rfl rfl (by have c0 := a6_c0 (M5.row (b := b1) (c := AC6 x) (by simp)); go_simp) ?_
          refine wpT_valp 36 (v := .int .u8 r) rfl rfl rfl (by have h := HQ.out; go_simp) ?_
          first | refine wpT_fin ?_ | dsimp only [wpT]
          try simp only [Act.put, List.setIfInBounds_toArray, List.set_cons_succ, List.set_cons_zero]
          go_upto_region 14 with fail
          refine wp_region_lin (.op 0 (.op 1 .done)) (by rfl) ?_
          refine wpT_valp 51 (v := .bool false) rfl rfl rfl (by go_simp) ?_
          refine wpT_valp 50 (v := .bool false) rfl rfl rfl (by go_simp) ?_
          first | refine wpT_fin ?_ | dsimp only [wpT]
          try simp only [Act.put, List.setIfInBounds_toArray, List.set_cons_succ, List.set_cons_zero]
          go_upto_region 16 with fail
          refine wp_region_lin (.op 0 (.op 1 .done)) (by rfl) ?_
          refine wpT_valp 57 (v := .bool false) rfl rfl rfl (by go_simp) ?_
          refine wpT_valp 56 (v := .bool false) rfl rfl rfl (by go_simp) ?_
          first | refine wpT_fin ?_ | dsimp only [wpT]
          try simp only [Act.put, List.setIfInBounds_toArray, List.set_cons_succ, List.set_cons_zero]
          go_upto_region 18 with fail
          refine wp_region_lin (.op 0 (.op 1 .done)) (by rfl) ?_
          refine wpT_valp 63 (v := .bool false) rfl rfl rfl (by go_simp) ?_
          refine wpT_valp 62 (v := .bool false) rfl rfl rfl (by go_simp) ?_
          first | refine wpT_fin ?_ | dsimp only [wpT]
          try simp only [Act.put, List.setIfInBounds_toArray, List.set_cons_succ, List.set_cons_zero]
          go_upto_region 20 with fail
          refine wp_region_lin (.op 0 (.op 1 .done)) (by rfl) ?_
          refine wpT_valp 69 (v := .bool false) rfl rfl rfl (by go_simp) ?_
          refine wpT_valp 68 (v := .bool false) rfl rfl rfl (by go_simp) ?_
          first | refine wpT_fin ?_ | dsimp only [wpT]
          try simp only [Act.put, List.setIfInBounds_toArray, List.set_cons_succ, List.set_cons_zero]
          go_upto_region 11 with fail
          refine wp_region_lin (.op 0 (.op 1 (.op 2 (.op 3 (.op 4 (.op 5 (.op 6 (.op 7 .done)))))))) (by rfl) ?_
          refine wpT_ld0 38 Try.underlying69 rfl inf_ac6 (b1) (AC6 x) rfl rfl rfl (by go_simp) (M5.row (b := b1) (c := AC6 x) (by simp)) (by simp [ITR_size, STR_size, RSR_size, AC6_size]) rfl ?_
          refine wpT_objN (U := Nat) (fun gz => .tuple #[.agg (ITR x.too (.slice (some ⟨gz, 0, none⟩) N N)), .bool true]) (fun gz g => g = gz) (fun gz w => BW w (.slice (some ⟨gz, 0, none⟩) N N) (List.replicate N x.by_)) (some 39) M5 K0 F0 (LX.stb _ _ _ _ _) rfl rfl rfl (by go_simp) (fun hX => item_e _ x HYES.out) (fun gz => BWg.stb _ _ _) (fun gz wi Si Mi Ki Fi => ?_)
          refine wpT_valp 37 (v := .tuple #[.agg (ITR x.too (.slice (some ⟨gz, 0, none⟩) N N)), .bool true]) rfl rfl rfl (by go_simp) ?_
          refine wpT_valp 40 (v := .agg (ITR x.too (.slice (some ⟨gz, 0, none⟩) N N))) rfl rfl rfl (by go_simp) ?_
          try simp only [Act.put, List.setIfInBounds_toArray, List.set_cons_succ, List.set_cons_zero]
          refine wpT_valp 41 (v := .bool true) rfl rfl rfl (by go_simp) ?_
          refine wpT_new (z := .agg (ITR 0 (.slice none 0 0))) 8 Mi (by kernel_rfl) (by decide) rfl rfl rfl rfl (fun b6 w7 M8 => ?_)
          try dsimp only [Value.cells] at M8
          refine wpT_st0 M8 0 (ITR x.too (.slice (some ⟨gz, 0, none⟩) N N)) inf_rit rfl rfl rfl rfl (by go_simp) (by go_simp) (by simp [ITR_size, STR_size, RSR_size, AC6_size]) (by simp [ITR_size, STR_size, RSR_size, AC6_size]) (by simp [go_sem]) rfl (fun w9 M10 => ?_)
          dsimp only [List.set] at M10
          refine wpT_valp 9 (v := .bool true) rfl rfl rfl (by go_simp) ?_
          first | refine wpT_fin ?_ | dsimp only [wpT]
          try simp only [Act.put, List.setIfInBounds_toArray, List.set_cons_succ, List.set_cons_zero]
          go_upto_region 12 with fail
          refine wp_region_lin (.op 0 .done) (by rfl) ?_
          refine wpT_valp 42 (v := .bool true) rfl rfl rfl (by go_simp) ?_
          first | refine wpT_fin ?_ | dsimp only [wpT]
          try simp only [Act.put, List.setIfInBounds_toArray, List.set_cons_succ, List.set_cons_zero]
          go_upto_region 13 with fail
          refine wp_region_lin (.op 0 (.op 1 (.op 2 (.op 3 (.op 4 (.op 5 (.op 6 .done))))))) (by rfl) ?_
          refine wpT_valp 43 (v := .pointer (some ⟨b, 0, none⟩)) rfl rfl rfl (by go_simp) ?_
          refine wpT_valp 44 (v := .pointer (some ⟨b6, 0, none⟩)) rfl rfl rfl (by go_simp) ?_
          refine wpT_valp 45 (v := .int .i64 x.too) rfl rfl rfl (by have c0 := it_c0 (M10.row (b := b6) (c := ITR x.too (.slice (some ⟨gz, 0, none⟩) N N)) (by simp)); go_simp) ?_
          refine wpT_valp 46 (v := .pointer (some ⟨b6, 1, none⟩)) rfl rfl rfl (by go_simp) ?_
          try simp only [Act.put, List.setIfInBounds_toArray, List.set_cons_succ, List.set_cons_zero]
          refine wpT_valp 47 (v := .slice (some ⟨gz, 0, none⟩) N N) rfl rfl rfl (by have c0 := it_c1 (M10.row (b := b6) (c := ITR x.too (.slice (some ⟨gz, 0, none⟩) N N)) (by simp)); go_simp) ?_
          refine wpT_valL 48 (v := .agg (ITR x.too (.slice (some ⟨gz, 0, none⟩) N N))) rfl rfl rfl (by have q := xb_itm2 w9 x.too (some ⟨gz, 0, none⟩) N N; go_simp) ?_
          refine wpT_obj (U := List It × Value) (fun u2 => .int .i64 q2) (fun u2 => LF b u2.2 u2.1) (fun u2 w => LX w B b room M2 u2) (some 49) M10 Ki Fi rfl rfl rfl (by go_simp) (fun hX => LX.up (lput_e _ hX.1 hrm x.too _ _ hX.2.1 hm9 HRES.out)) (fun u2 => LX.stb _ _ _ _ _) (fun u2 w2 S2 Mw2 K2 F2 => ?_)
          first | refine wpT_fin ?_ | dsimp only [wpT]
          try simp only [Act.put, List.setIfInBounds_toArray, List.set_cons_succ, List.set_cons_zero]
          go_upto_region 22 with fail
          obtain ⟨hXt, MOt, hdt⟩ := K2 _ _ Mw2
          have Ft : ∀ g, LF b u2.2 u2.1 g → no g ∨ w.heap.size ≤ g := fun g h => .inr (by have := (hXt.1.lt g h).1; rw [HB.out] at this; exact this)
          obtain ⟨St, Mt, Kt⟩ := MOt.keep (LX.stb B b room M2 u2) hXt (fun q hq h => hdt q hq h)
          clear hXt MOt hdt
          refine wp_region_lin (.op 0 (.op 1 (.op 2 (.op 3 (.op 4 (.op 5 (.op 6 (.op 7 (.op 8 (.op 9 (.op 10 (.op 11 (.op 12 (.op 13 .done)))))))))))))) (by rfl) ?_
          refine wpT_valp 78 (v := .pointer (some ⟨b, 0, none⟩)) rfl rfl rfl (by go_simp) ?_
          refine wpT_callv 79 Mt (v := .int .i64 m2) rfl rfl rfl (by go_simp) (llen_e w2 (Kt _ _ Mt).1 HM2.out) (fun w11 M12 => ?_)
          refine wpT_valp 80 (v := .int .u8 sz) rfl rfl rfl (by go_simp) ?_
          refine wpT_valp 81 (v := .int .i64 sz) rfl rfl rfl (by have h := HSZ0.out; go_simp) ?_
          try simp only [Act.put, List.setIfInBounds_toArray, List.set_cons_succ, List.set_cons_zero]
          refine wpT_valp 82 (v := .int .i64 room) rfl rfl rfl (by have h := HRM.out; go_simp) ?_
          refine wpT_valp 83 (v := .bool false) rfl rfl rfl (by go_simp) ?_
          refine wpT_valp 84 (v := .bool false) rfl rfl rfl (by go_simp) ?_
          refine wpT_valp 85 (v := .pointer (some ⟨b, 0, none⟩)) rfl rfl (by simp [Region.wanted, yielded, Act.put]) (by go_simp) ?_
          refine wpT_objN (U := List It × Value) (fun ua1 => ua1.2) (fun ua1 => AF ua1.2 ua1.1) (fun ua1 w => AO w B ua1.1 ua1.2 ∧ ua1.1.map It.ab = M2) (some 86) M12 Kt Ft (LX.stb _ _ _ _ _) rfl rfl (by simp [Region.wanted, yielded, Act.put]) (by go_simp) (fun hX => lall_e _ hX hm29) (fun ua1 => AOM.stb _ _ _ _) (fun ua1 wa1 Swa1 Mwa1 Ka1 Fa1 => ?_)
          obtain ⟨xa, xc, hxa⟩ := aom_shape (Ka1 _ _ Mwa1).1.2 HM2.out
          obtain ⟨La, va⟩ := ua1
          dsimp only at hxa
          subst hxa
          try simp only [Act.put, List.setIfInBounds_toArray, List.set_cons_succ, List.set_cons_zero]
          refine wpT_valp 87 (v := .int .i64 m2) rfl rfl (by simp [Region.wanted, yielded, Act.put]) (by go_simp) ?_
          refine wpT_valp 88 (v := .pointer (some ⟨b, 0, none⟩)) rfl rfl (by simp [Region.wanted, yielded, Act.put]) (by go_simp) ?_
          refine wpT_callv 89 Mwa1 (v := .int .i64 m2) rfl rfl (by simp [Region.wanted, yielded, Act.put]) (by go_simp) (llen_e wa1 (Ka1 _ _ Mwa1).1.1 HM2.out) (fun w13 M14 => ?_)
          refine wpT_valp 90 (v := .bool false) rfl rfl (by simp [Region.wanted, yielded, Act.put]) (by go_simp) ?_
          refine wpT_valp 91 (v := .bool false) rfl rfl rfl (by go_simp) ?_
          first | refine wpT_fin ?_ | dsimp only [wpT]
          try simp only [Act.put, List.setIfInBounds_toArray, List.set_cons_succ, List.set_cons_zero]
          go_upto_region 24 with fail
          obtain ⟨hXt, MOt, hdt⟩ := Ka1 _ _ M14
          obtain ⟨S9, M9, K9⟩ := MOt.keep (LX.stb B b room M2 u2) hXt.1 (fun q hq h => hdt q hq (.inl h))
          clear hXt MOt hdt
          refine wp_region_lin (.op 0 (.op 1 (.op 2 (.op 3 .done)))) (by rfl) ?_
          refine wpT_valp 92 (v := .pointer (some ⟨b, 0, none⟩)) rfl rfl rfl (by go_simp) ?_
          refine wpT_objN (U := List It × Value) (fun ua2 => ua2.2) (fun ua2 => AF ua2.2 ua2.1) (fun ua2 w => AO w B ua2.1 ua2.2 ∧ ua2.1.map It.ab = M2) (some 93) M9 K9 Ft (LX.stb _ _ _ _ _) rfl rfl rfl (by go_simp) (fun hX => lall_e _ hX hm29) (fun ua2 => AOM.stb _ _ _ _) (fun ua2 wa2 Swa2 Mwa2 Ka2 Fa2 => ?_)
          obtain ⟨ya, yc, hya⟩ := aom_shape (Ka2 _ _ Mwa2).1.2 HM2.out
          obtain ⟨Lb, vb⟩ := ua2
          dsimp only at hya
          subst hya
          refine wpT_valp 94 (v := .int .i64 m2) rfl rfl rfl (by go_simp) ?_
          refine wpT_valp 95 (v := .int .i64 0) rfl rfl rfl (by go_simp) ?_
          first | refine wpT_fin ?_ | dsimp only [wpT]
          try simp only [Act.put, List.setIfInBounds_toArray, List.set_cons_succ, List.set_cons_zero]
          go_wp2_with fail
          obtain ⟨hXe, MOe, hde⟩ := Ka2 _ _ Mwa2
          have MOe := MOe.sub (H' := []) (by simp)
          clear Ka2 Ka1 K9 Kt Mwa2
          go_loopw [95] (fun t wr => ∃ j : Nat, j ≤ m2 ∧ t = .int .i64 j ∧ Mm no w [] wr ∧ LX wr B b room M2 u2 ∧ (AO wr B Lb (.slice ya m2 yc) ∧ Lb.map It.ab = M2)) (fun t _ => m2 - (intOf t).toNat)
          case atStart => exact ⟨0, by omega, rfl, MOe, hXe.1, hXe.2⟩
          case round =>
            clear MOe hXe hde
            obtain ⟨j, hj, rfl, MO, hXL, hXA⟩ := hrel
            by_cases hjm : j < m2
            · have hltj : (j : Int) < (m2 : Int) := by omega
              have hj00 : (0 : Int) ≤ (j : Int) := by omega
              have hlb : Lb.length = m2 := by rw [← HM2.out, ← hXA.2, List.length_map]
              obtain ⟨y, hy⟩ : ∃ y, Lb[j]? = some y := ⟨_, List.getElem?_eq_getElem (by omega)⟩
              have hok2 := HOK2.out (y.too, y.l) (by rw [← hXA.2]; exact List.mem_map.2 ⟨y, List.mem_of_getElem? hy, rfl⟩)
              have hyt0 : ¬ y.too < 0 := by have := hok2.2.1; dsimp only at this; omega
              have hyt1 : ¬ 16 ≤ y.too := by have := hok2.2.2; dsimp only at this; omega
              obtain ⟨yg, c, e⟩ := ow_some hXA.1.ow (by omega)
              injection e with e1 e2 e3
              subst e1
              clear e2 e3 hok2
              have HEQ : Hid (∀ v : World, (AO v B Lb (.slice (some ⟨yg, 0, none⟩) m2 yc) ∧ Lb.map It.ab = M2) → exLoad Try.prog 72 (.pointer (some ⟨yg, j * 2, none⟩)) v = .ok (.value (.agg (ITR y.too (.slice (some ⟨y.g, 0, none⟩) 736 y.c)))) v) := hid fun v h => by
                have := h.1.ow.sv
                rw [hlb] at this
                have := sv_itm this hy
                rwa [Nat.zero_add] at this
              obtain ⟨j1, hj1⟩ : ∃ k, k = j + 1 := ⟨_, rfl⟩
              have HJ1 := hid (show IntKind.i64.wrap ((j : Int) + 1) = (j1 : Int) by rw [i64w (by omega) (by omega), hj1]; rfl)
              have HJJ := hid hj1
              obtain ⟨Sq, M, Kq⟩ := MO.keep ((LX.stb B b room M2 u2).and (AOM.stb B Lb (.slice (some ⟨yg, 0, none⟩) m2 yc) M2)) ⟨hXL, hXA⟩ (fun q hq => by cases hq)
              clear hy hj1 hlb MO hXL hXA
              go_upto_region 25 with fail
              refine wp_region_lin (.op 0 .done) (by rfl) ?_
              refine wpT_valp 96 (v := .bool true) rfl rfl rfl (by go_simp) ?_
              first | refine wpT_fin ?_ | dsimp only [wpT]
              try simp only [Act.put, List.setIfInBounds_toArray, List.set_cons_succ, List.set_cons_zero]
              go_upto_region 26 with fail
              refine wp_region_lin (.op 0 (.op 1 (.op 2 (.op 3 .done)))) (by rfl) ?_
              refine wpT_valp 97 (v := .pointer (some ⟨yg, j * 2, none⟩)) rfl rfl rfl (by go_simp) ?_
              refine wpT_ldy 98 (.pointer (some ⟨yg, j * 2, none⟩)) (.agg (ITR y.too (.slice (some ⟨y.g, 0, none⟩) 736 y.c))) rfl rfl rfl (by go_simp) (HEQ.out _ (Kq _ _ M).1.2) rfl ?_
              refine wpT_new (z := .agg (ITR 0 (.slice none 0 0))) 11 M (by kernel_rfl) (by decide) rfl rfl rfl rfl (fun b1 w2 M3 => ?_)
              try dsimp only [Value.cells] at M3
              refine wpT_st0 M3 0 (ITR y.too (.slice (some ⟨y.g, 0, none⟩) 736 y.c)) inf_itm rfl rfl rfl rfl (by go_simp) (by go_simp) (by simp [ITR_size, STR_size, RSR_size, AC6_size]) (by simp [ITR_size, STR_size, RSR_size, AC6_size]) (by simp [go_sem]) rfl (fun w4 M5 => ?_)
              dsimp only [List.set] at M5
              first | refine wpT_fin ?_ | dsimp only [wpT]
              try simp only [Act.put, List.setIfInBounds_toArray, List.set_cons_succ, List.set_cons_zero]
              go_upto_region 27 with fail
              refine wp_region_lin (.op 0 (.op 1 (.op 2 (.op 3 (.op 4 (.op 5 (.op 6 (.op 7 (.op 8 (.op 9 (.op 10 (.op 11 (.op 12 (.op 13 .done)))))))))))))) (by rfl) ?_
              refine wpT_valp 99 (v := .pointer (some ⟨b1, 1, none⟩)) rfl rfl rfl (by go_simp) ?_
              refine wpT_valp 100 (v := .slice (some ⟨y.g, 0, none⟩) 736 y.c) rfl rfl rfl (by have c0 := it_c1 (M5.row (b := b1) (c := ITR y.too (.slice (some ⟨y.g, 0, none⟩) 736 y.c)) (by simp)); go_simp) ?_
              refine wpT_valp 101 (v := .int .i64 736) rfl rfl rfl (by go_simp) ?_
              refine wpT_valp 102 (v := .bool false) rfl rfl rfl (by go_simp) ?_
              try simp only [Act.put, List.setIfInBounds_toArray, List.set_cons_succ, List.set_cons_zero]
              refine wpT_valp 103 (v := .bool false) rfl rfl rfl (by go_simp) ?_
              refine wpT_valp 104 (v := .pointer (some ⟨b1, 0, none⟩)) rfl rfl (by simp [Region.wanted, yielded, Act.put]) (by go_simp) ?_
              refine wpT_valp 105 (v := .int .i64 y.too) rfl rfl (by simp [Region.wanted, yielded, Act.put]) (by have c0 := it_c0 (M5.row (b := b1) (c := ITR y.too (.slice (some ⟨y.g, 0, none⟩) 736 y.c)) (by simp)); go_simp) ?_
              refine wpT_valp 106 (v := .bool false) rfl rfl (by simp [Region.wanted, yielded, Act.put]) (by go_simp) ?_
              refine wpT_valp 107 (v := .bool false) rfl rfl rfl (by go_simp) ?_
              try simp only [Act.put, List.setIfInBounds_toArray, List.set_cons_succ, List.set_cons_zero]
              refine wpT_valp 108 (v := .bool false) rfl rfl rfl (by go_simp) ?_
              refine wpT_valp 109 (v := .pointer (some ⟨b1, 0, none⟩)) rfl rfl (by simp [Region.wanted, yielded, Act.put]) (by go_simp) ?_
              refine wpT_valp 110 (v := .int .i64 y.too) rfl rfl (by simp [Region.wanted, yielded, Act.put]) (by have c0 := it_c0 (M5.row (b := b1) (c := ITR y.too (.slice (some ⟨y.g, 0, none⟩) 736 y.c)) (by simp)); go_simp) ?_
              refine wpT_valp 111 (v := .bool false) rfl rfl (by simp [Region.wanted, yielded, Act.put]) (by go_simp) ?_
              refine wpT_valp 112 (v := .bool false) rfl rfl rfl (by go_simp) ?_
              first | refine wpT_fin ?_ | dsimp only [wpT]
              try simp only [Act.put, List.setIfInBounds_toArray, List.set_cons_succ, List.set_cons_zero]
              go_upto_region 29 with fail
              refine wp_region_lin (.op 0 (.op 1 .done)) (by rfl) ?_
              refine wpT_valp 113 (v := .int .i64 j1) rfl rfl rfl (by have h := HJ1.out; go_simp) ?_
              refine wpT_valp 95 (v := .int .i64 j1) rfl rfl rfl (by go_simp) ?_
              first | refine wpT_fin ?_ | dsimp only [wpT]
              try simp only [Act.put, List.setIfInBounds_toArray, List.set_cons_succ, List.set_cons_zero]
              go_wp2_with fail
              go_roundw
              case rel => exact ⟨j1, by have := HJJ.out; omega, rfl, (Kq _ _ M5).2.1.sub (H' := []) (by simp), (Kq _ _ M5).1.1, (Kq _ _ M5).1.2⟩
              case measure => have := HJJ.out; simp only [intOf]; omega
            · obtain rfl : m2 = j := by omega
              have HXL := hid hXL
              have HOM := hid MO
              have M := MO
              clear hXL hXA MO
              go_upto_region 25 with fail
              refine wp_region_lin (.op 0 .done) (by rfl) ?_
              refine wpT_valp 96 (v := .bool false) rfl rfl rfl (by go_simp) ?_
              first | refine wpT_fin ?_ | dsimp only [wpT]
              try simp only [Act.put, List.setIfInBounds_toArray, List.set_cons_succ, List.set_cons_zero]
              go_upto_region 8 with fail
              refine wp_region_lin (.op 0 (.op 1 (.op 2 .done))) (by rfl) ?_
              refine wpT_valp 28 (v := .int .i64 i) rfl rfl rfl (by go_simp) ?_
              refine wpT_valp 29 (v := .int .i64 i1) rfl rfl rfl (by have h := HI1.out; go_simp) ?_
              refine wpT_valp 6 (v := .int .i64 i1) rfl rfl rfl (by go_simp) ?_
              first | refine wpT_fin ?_ | dsimp only [wpT]
              try simp only [Act.put, List.setIfInBounds_toArray, List.set_cons_succ, List.set_cons_zero]
              go_wp2_with fail
              go_roundw
              case rel => exact ⟨i1, M2, u2, by have := HII.out; omega, rfl, HOM.out, HXL.out, HOK2.out, HLE2.out⟩
              case measure => have := HII.out; simp only [intOf]; omega
        · have HNO := hid hmay
          clear hmay
          have HOK2 := HOKM
          have HLE2 := HLE
          obtain ⟨m2, hm2⟩ : ∃ m, Ml.length = m := ⟨_, rfl⟩
          have HM2 := hid hm2
          have hm29 : Ml.length ≤ 5000 := hm9
          have hrm2 : ¬ room < (m2 : Int) := by have := HLE2.out; omega
          have hm2c : m2 ≤ 5000 := by omega
          clear hm2
          go_upto_region 7 with fail
          refine wp_region_lin (.op 0 (.op 1 (.op 2 (.op 3 (.op 4 (.op 5 (.op 6 (.op 7 .done)))))))) (by rfl) ?_
          refine wpT_valp 20 (v := .int .i64 i) rfl rfl rfl (by go_simp) ?_
          refine wpT_valp 21 (v := .slice (some ⟨gu, uo, none⟩) n uc) rfl rfl rfl (by go_simp) ?_
          refine wpT_valp 22 (v := .int .i64 n) rfl rfl rfl (by go_simp) ?_
          refine wpT_valp 23 (v := .bool true) rfl rfl rfl (by go_simp) ?_
          try simp only [Act.put, List.setIfInBounds_toArray, List.set_cons_succ, List.set_cons_zero]
          refine wpT_valp 24 (v := .bool true) rfl rfl rfl (by go_simp) ?_
          refine wpT_valp 25 (v := .int .i64 i) rfl rfl (by simp [Region.wanted, yielded, Act.put]) (by go_simp) ?_
          refine wpT_valp 26 (v := .bool true) rfl rfl (by simp [Region.wanted, yielded, Act.put]) (by go_simp) ?_
          refine wpT_valp 27 (v := .bool true) rfl rfl rfl (by go_simp) ?_
          first | refine wpT_fin ?_ | dsimp only [wpT]
          try simp only [Act.put, List.setIfInBounds_toArray, List.set_cons_succ, List.set_cons_zero]
          go_upto_region 9 with fail
          refine wp_region_lin (.op 0 (.op 1 (.op 2 (.op 3 (.op 4 (.op 5 .done)))))) (by rfl) ?_
          refine wpT_valp 30 (v := .slice (some ⟨gu, uo, none⟩) n uc) rfl rfl rfl (by go_simp) ?_
          refine wpT_valp 31 (v := .int .i64 i) rfl rfl rfl (by go_simp) ?_
          refine wpT_valp 32 (v := .pointer (some ⟨gu, uo + i * 6, none⟩)) rfl rfl rfl (by go_simp) ?_
          refine wpT_ldy 33 (.pointer (some ⟨gu, uo + i * 6, none⟩)) (.agg (AC6 x)) rfl rfl rfl (by go_simp) (HEL.out _ (K0 _ _ M).2.1.end_) rfl ?_
          try simp only [Act.put, List.setIfInBounds_toArray, List.set_cons_succ, List.set_cons_zero]
          refine wpT_new (z := .agg (AC6 A6.zero)) 7 M (by kernel_rfl) (by decide) rfl rfl rfl rfl (fun b1 w2 M3 => ?_)
          try dsimp only [Value.cells] at M3
          refine wpT_st0 M3 0 (AC6 x) inf_ac6 rfl rfl rfl rfl (by go_simp) (by go_simp) (by simp [ITR_size, STR_size, RSR_size, AC6_size]) (by simp [ITR_size, STR_size, RSR_size, AC6_size]) (by simp [go_sem]) rfl (fun w4 M5 => ?_)
          dsimp only [List.set] at M5
          first | refine wpT_fin ?_ | dsimp only [wpT]
          try simp only [Act.put, List.setIfInBounds_toArray, List.set_cons_succ, List.set_cons_zero]
          go_upto_region 10 with fail
          refine wp_region_lin (.op 0 (.op 1 (.op 2 .done))) (by rfl) ?_
          refine wpT_valp 34 (v := .pointer (some ⟨b1, 0, none⟩)) rfl rfl rfl (by go_simp) ?_
          refine wpT_valp 35 (v := .int .u8 x.q) rfl rfl rfl (by have c0 := a6_c0 (M5.row (b := b1) (c := AC6 x) (by simp)); go_simp) ?_
          refine wpT_valp 36 (v := .int .u8 r) rfl rfl rfl (by have h := HQ.out; go_simp) ?_
          first | refine wpT_fin ?_ | dsimp only [wpT]
          try simp only [Act.put, List.setIfInBounds_toArray, List.set_cons_succ, List.set_cons_zero]
          go_upto_region 14 with fail
          refine wp_region_lin (.op 0 (.op 1 .done)) (by rfl) ?_
          refine wpT_valp 51 (v := .bool false) rfl rfl rfl (by go_simp) ?_
          refine wpT_valp 50 (v := .bool false) rfl rfl rfl (by go_simp) ?_
          first | refine wpT_fin ?_ | dsimp only [wpT]
          try simp only [Act.put, List.setIfInBounds_toArray, List.set_cons_succ, List.set_cons_zero]
          go_upto_region 16 with fail
          refine wp_region_lin (.op 0 (.op 1 .done)) (by rfl) ?_
          refine wpT_valp 57 (v := .bool false) rfl rfl rfl (by go_simp) ?_
          refine wpT_valp 56 (v := .bool false) rfl rfl rfl (by go_simp) ?_
          first | refine wpT_fin ?_ | dsimp only [wpT]
          try simp only [Act.put, List.setIfInBounds_toArray, List.set_cons_succ, List.set_cons_zero]
          go_upto_region 18 with fail
          refine wp_region_lin (.op 0 (.op 1 .done)) (by rfl) ?_
          refine wpT_valp 63 (v := .bool false) rfl rfl rfl (by go_simp) ?_
          refine wpT_valp 62 (v := .bool false) rfl rfl rfl (by go_simp) ?_
          first | refine wpT_fin ?_ | dsimp only [wpT]
          try simp only [Act.put, List.setIfInBounds_toArray, List.set_cons_succ, List.set_cons_zero]
          go_upto_region 20 with fail
          refine wp_region_lin (.op 0 (.op 1 .done)) (by rfl) ?_
          refine wpT_valp 69 (v := .bool false) rfl rfl rfl (by go_simp) ?_
          refine wpT_valp 68 (v := .bool false) rfl rfl rfl (by go_simp) ?_
          first | refine wpT_fin ?_ | dsimp only [wpT]
          try simp only [Act.put, List.setIfInBounds_toArray, List.set_cons_succ, List.set_cons_zero]
          go_upto_region 11 with fail
          refine wp_region_lin (.op 0 (.op 1 (.op 2 (.op 3 (.op 4 (.op 5 (.op 6 (.op 7 .done)))))))) (by rfl) ?_
          refine wpT_ld0 38 Try.underlying69 rfl inf_ac6 (b1) (AC6 x) rfl rfl rfl (by go_simp) (M5.row (b := b1) (c := AC6 x) (by simp)) (by simp [ITR_size, STR_size, RSR_size, AC6_size]) rfl ?_
          refine wpT_callv 39 M5 (v := .tuple #[.agg (ITR 0 (.slice none 0 0)), .bool false]) rfl rfl rfl (by go_simp) (item_b w4 x HNO.out) (fun w6 M7 => ?_)
          refine wpT_valp 37 (v := .tuple #[.agg (ITR 0 (.slice none 0 0)), .bool false]) rfl rfl rfl (by go_simp) ?_
          refine wpT_valp 40 (v := .agg (ITR 0 (.slice none 0 0))) rfl rfl rfl (by go_simp) ?_
          try simp only [Act.put, List.setIfInBounds_toArray, List.set_cons_succ, List.set_cons_zero]
          refine wpT_valp 41 (v := .bool false) rfl rfl rfl (by go_simp) ?_
          refine wpT_new (z := .agg (ITR 0 (.slice none 0 0))) 8 M7 (by kernel_rfl) (by decide) rfl rfl rfl rfl (fun b8 w9 M10 => ?_)
          try dsimp only [Value.cells] at M10
          refine wpT_st0 M10 0 (ITR 0 (.slice none 0 0)) inf_rit rfl rfl rfl rfl (by go_simp) (by go_simp) (by simp [ITR_size, STR_size, RSR_size, AC6_size]) (by simp [ITR_size, STR_size, RSR_size, AC6_size]) (by simp [go_sem]) rfl (fun w11 M12 => ?_)
          dsimp only [List.set] at M12
          refine wpT_valp 9 (v := .bool false) rfl rfl rfl (by go_simp) ?_
          first | refine wpT_fin ?_ | dsimp only [wpT]
          try simp only [Act.put, List.setIfInBounds_toArray, List.set_cons_succ, List.set_cons_zero]
          go_upto_region 12 with fail
          refine wp_region_lin (.op 0 .done) (by rfl) ?_
          refine wpT_valp 42 (v := .bool false) rfl rfl rfl (by go_simp) ?_
          first | refine wpT_fin ?_ | dsimp only [wpT]
          try simp only [Act.put, List.setIfInBounds_toArray, List.set_cons_succ, List.set_cons_zero]
          go_upto_region 22 with fail
          obtain ⟨hXt, MOt, hdt⟩ := K0 _ _ M12
          have Ft : ∀ g, LF b u.2 u.1 g → no g ∨ w.heap.size ≤ g := fun g h => .inr (by have := (hXt.1.lt g h).1; rw [HB.out] at this; exact this)
          obtain ⟨St, Mt, Kt⟩ := MOt.keep (LX.stb B b room Ml u) hXt (fun q hq h => hdt q hq h)
          clear hXt MOt hdt
          refine wp_region_lin (.op 0 (.op 1 (.op 2 (.op 3 (.op 4 (.op 5 (.op 6 (.op 7 (.op 8 (.op 9 (.op 10 (.op 11 (.op 12 (.op 13 .done)))))))))))))) (by rfl) ?_
          refine wpT_valp 78 (v := .pointer (some ⟨b, 0, none⟩)) rfl rfl rfl (by go_simp) ?_
          refine wpT_callv 79 Mt (v := .int .i64 m2) rfl rfl rfl (by go_simp) (llen_e w11 (Kt _ _ Mt).1 HM2.out) (fun w13 M14 => ?_)
          refine wpT_valp 80 (v := .int .u8 sz) rfl rfl rfl (by go_simp) ?_
          refine wpT_valp 81 (v := .int .i64 sz) rfl rfl rfl (by have h := HSZ0.out; go_simp) ?_
          try simp only [Act.put, List.setIfInBounds_toArray, List.set_cons_succ, List.set_cons_zero]
          refine wpT_valp 82 (v := .int .i64 room) rfl rfl rfl (by have h := HRM.out; go_simp) ?_
          refine wpT_valp 83 (v := .bool false) rfl rfl rfl (by go_simp) ?_
          refine wpT_valp 84 (v := .bool false) rfl rfl rfl (by go_simp) ?_
          refine wpT_valp 85 (v := .pointer (some ⟨b, 0, none⟩)) rfl rfl (by simp [Region.wanted, yielded, Act.put]) (by go_simp) ?_
          refine wpT_objN (U := List It × Value) (fun ua1 => ua1.2) (fun ua1 => AF ua1.2 ua1.1) (fun ua1 w => AO w B ua1.1 ua1.2 ∧ ua1.1.map It.ab = Ml) (some 86) M14 Kt Ft (LX.stb _ _ _ _ _) rfl rfl (by simp [Region.wanted, yielded, Act.put]) (by go_simp) (fun hX => lall_e _ hX hm29) (fun ua1 => AOM.stb _ _ _ _) (fun ua1 wa1 Swa1 Mwa1 Ka1 Fa1 => ?_)
          obtain ⟨xa, xc, hxa⟩ := aom_shape (Ka1 _ _ Mwa1).1.2 HM2.out
          obtain ⟨La, va⟩ := ua1
          dsimp only at hxa
          subst hxa
          try simp only [Act.put, List.setIfInBounds_toArray, List.set_cons_succ, List.set_cons_zero]
          refine wpT_valp 87 (v := .int .i64 m2) rfl rfl (by simp [Region.wanted, yielded, Act.put]) (by go_simp) ?_
          refine wpT_valp 88 (v := .pointer (some ⟨b, 0, none⟩)) rfl rfl (by simp [Region.wanted, yielded, Act.put]) (by go_simp) ?_
          refine wpT_callv 89 Mwa1 (v := .int .i64 m2) rfl rfl (by simp [Region.wanted, yielded, Act.put]) (by go_simp) (llen_e wa1 (Ka1 _ _ Mwa1).1.1 HM2.out) (fun w15 M16 => ?_)
          refine wpT_valp 90 (v := .bool false) rfl rfl (by simp [Region.wanted, yielded, Act.put]) (by go_simp) ?_
          refine wpT_valp 91 (v := .bool false) rfl rfl rfl (by go_simp) ?_
          first | refine wpT_fin ?_ | dsimp only [wpT]
          try simp only [Act.put, List.setIfInBounds_toArray, List.set_cons_succ, List.set_cons_zero]
          go_upto_region 24 with fail
          obtain ⟨hXt, MOt, hdt⟩ := Ka1 _ _ M16
          obtain ⟨S9, M9, K9⟩ := MOt.keep (LX.stb B b room Ml u) hXt.1 (fun q hq h => hdt q hq (.inl h))
          clear hXt MOt hdt
          refine wp_region_lin (.op 0 (.op 1 (.op 2 (.op 3 .done)))) (by rfl) ?_
          refine wpT_valp 92 (v := .pointer (some ⟨b, 0, none⟩)) rfl rfl rfl (by go_simp) ?_
          refine wpT_objN (U := List It × Value) (fun ua2 => ua2.2) (fun ua2 => AF ua2.2 ua2.1) (fun ua2 w => AO w B ua2.1 ua2.2 ∧ ua2.1.map It.ab = Ml) (some 93) M9 K9 Ft (LX.stb _ _ _ _ _) rfl rfl rfl (by go_simp) (fun hX => lall_e _ hX hm29) (fun ua2 => AOM.stb _ _ _ _) (fun ua2 wa2 Swa2 Mwa2 Ka2 Fa2 => ?_)
          obtain ⟨ya, yc, hya⟩ := aom_shape (Ka2 _ _ Mwa2).1.2 HM2.out
          obtain ⟨Lb, vb⟩ := ua2
          dsimp only at hya
          subst hya
          refine wpT_valp 94 (v := .int .i64 m2) rfl rfl rfl (by go_simp) ?_
          refine wpT_valp 95 (v := .int .i64 0) rfl rfl rfl (by go_simp) ?_
          first | refine wpT_fin ?_ | dsimp only [wpT]
          try simp only [Act.put, List.setIfInBounds_toArray, List.set_cons_succ, List.set_cons_zero]
          go_wp2_with fail
          obtain ⟨hXe, MOe, hde⟩ := Ka2 _ _ Mwa2
          have MOe := MOe.sub (H' := []) (by simp)
          clear Ka2 Ka1 K9 Kt Mwa2
          go_loopw [95] (fun t wr => ∃ j : Nat, j ≤ m2 ∧ t = .int .i64 j ∧ Mm no w [] wr ∧ LX wr B b room Ml u ∧ (AO wr B Lb (.slice ya m2 yc) ∧ Lb.map It.ab = Ml)) (fun t _ => m2 - (intOf t).toNat)
          case atStart => exact ⟨0, by omega, rfl, MOe, hXe.1, hXe.2⟩
          case round =>
            clear MOe hXe hde
            obtain ⟨j, hj, rfl, MO, hXL, hXA⟩ := hrel
            by_cases hjm : j < m2
            · have hltj : (j : Int) < (m2 : Int) := by omega
              have hj00 : (0 : Int) ≤ (j : Int) := by omega
              have hlb : Lb.length = m2 := by rw [← HM2.out, ← hXA.2, List.length_map]
              obtain ⟨y, hy⟩ : ∃ y, Lb[j]? = some y := ⟨_, List.getElem?_eq_getElem (by omega)⟩
              have hok2 := HOK2.out (y.too, y.l) (by rw [← hXA.2]; exact List.mem_map.2 ⟨y, List.mem_of_getElem? hy, rfl⟩)
              have hyt0 : ¬ y.too < 0 := by have := hok2.2.1; dsimp only at this; omega
              have hyt1 : ¬ 16 ≤ y.too := by have := hok2.2.2; dsimp only at this; omega
              obtain ⟨yg, c, e⟩ := ow_some hXA.1.ow (by omega)
              injection e with e1 e2 e3
              subst e1
              clear e2 e3 hok2
              have HEQ : Hid (∀ v : World, (AO v B Lb (.slice (some ⟨yg, 0, none⟩) m2 yc) ∧ Lb.map It.ab = Ml) → exLoad Try.prog 72 (.pointer (some ⟨yg, j * 2, none⟩)) v = .ok (.value (.agg (ITR y.too (.slice (some ⟨y.g, 0, none⟩) 736 y.c)))) v) := hid fun v h => by
                have := h.1.ow.sv
                rw [hlb] at this
                have := sv_itm this hy
                rwa [Nat.zero_add] at this
              obtain ⟨j1, hj1⟩ : ∃ k, k = j + 1 := ⟨_, rfl⟩
              have HJ1 := hid (show IntKind.i64.wrap ((j : Int) + 1) = (j1 : Int) by rw [i64w (by omega) (by omega), hj1]; rfl)
              have HJJ := hid hj1
              obtain ⟨Sq, M, Kq⟩ := MO.keep ((LX.stb B b room Ml u).and (AOM.stb B Lb (.slice (some ⟨yg, 0, none⟩) m2 yc) Ml)) ⟨hXL, hXA⟩ (fun q hq => by cases hq)
              clear hy hj1 hlb MO hXL hXA
              go_upto_region 25 with fail
              refine wp_region_lin (.op 0 .done) (by rfl) ?_
              refine wpT_valp 96 (v := .bool true) rfl rfl rfl (by go_simp) ?_
              first | refine wpT_fin ?_ | dsimp only [wpT]
              try simp only [Act.put, List.setIfInBounds_toArray, List.set_cons_succ, List.set_cons_zero]
              go_upto_region 26 with fail
              refine wp_region_lin (.op 0 (.op 1 (.op 2 (.op 3 .done)))) (by rfl) ?_
              refine wpT_valp 97 (v := .pointer (some ⟨yg, j * 2, none⟩)) rfl rfl rfl (by go_simp) ?_
              refine wpT_ldy 98 (.pointer (some ⟨yg, j * 2, none⟩)) (.agg (ITR y.too (.slice (some ⟨y.g, 0, none⟩) 736 y.c))) rfl rfl rfl (by go_simp) (HEQ.out _ (Kq _ _ M).1.2) rfl ?_
              refine wpT_new (z := .agg (ITR 0 (.slice none 0 0))) 11 M (by kernel_rfl) (by decide) rfl rfl rfl rfl (fun b1 w2 M3 => ?_)
              try dsimp only [Value.cells] at M3
              refine wpT_st0 M3 0 (ITR y.too (.slice (some ⟨y.g, 0, none⟩) 736 y.c)) inf_itm rfl rfl rfl rfl (by go_simp) (by go_simp) (by simp [ITR_size, STR_size, RSR_size, AC6_size]) (by simp [ITR_size, STR_size, RSR_size, AC6_size]) (by simp [go_sem]) rfl (fun w4 M5 => ?_)
              dsimp only [List.set] at M5
              first | refine wpT_fin ?_ | dsimp only [wpT]
              try simp only [Act.put, List.setIfInBounds_toArray, List.set_cons_succ, List.set_cons_zero]
              go_upto_region 27 with fail
              refine wp_region_lin (.op 0 (.op 1 (.op 2 (.op 3 (.op 4 (.op 5 (.op 6 (.op 7 (.op 8 (.op 9 (.op 10 (.op 11 (.op 12 (.op 13 .done)))))))))))))) (by rfl) ?_
              refine wpT_valp 99 (v := .pointer (some ⟨b1, 1, none⟩)) rfl rfl rfl (by go_simp) ?_
              refine wpT_valp 100 (v := .slice (some ⟨y.g, 0, none⟩) 736 y.c) rfl rfl rfl (by have c0 := it_c1 (M5.row (b := b1) (c := ITR y.too (.slice (some ⟨y.g, 0, none⟩) 736 y.c)) (by simp)); go_simp) ?_
              refine wpT_valp 101 (v := .int .i64 736) rfl rfl rfl (by go_simp) ?_
              refine wpT_valp 102 (v := .bool false) rfl rfl rfl (by go_simp) ?_
              try simp only [Act.put, List.setIfInBounds_toArray, List.set_cons_succ, List.set_cons_zero]
              refine wpT_valp 103 (v := .bool false) rfl rfl rfl (by go_simp) ?_
              refine wpT_valp 104 (v := .pointer (some ⟨b1, 0, none⟩)) rfl rfl (by simp [Region.wanted, yielded, Act.put]) (by go_simp) ?_
              refine wpT_valp 105 (v := .int .i64 y.too) rfl rfl (by simp [Region.wanted, yielded, Act.put]) (by have c0 := it_c0 (M5.row (b := b1) (c := ITR y.too (.slice (some ⟨y.g, 0, none⟩) 736 y.c)) (by simp)); go_simp) ?_
              refine wpT_valp 106 (v := .bool false) rfl rfl (by simp [Region.wanted, yielded, Act.put]) (by go_simp) ?_
              refine wpT_valp 107 (v := .bool false) rfl rfl rfl (by go_simp) ?_
              try simp only [Act.put, List.setIfInBounds_toArray, List.set_cons_succ, List.set_cons_zero]
              refine wpT_valp 108 (v := .bool false) rfl rfl rfl (by go_simp) ?_
              refine wpT_valp 109 (v := .pointer (some ⟨b1, 0, none⟩)) rfl rfl (by simp [Region.wanted, yielded, Act.put]) (by go_simp) ?_
              refine wpT_valp 110 (v := .int .i64 y.too) rfl rfl (by simp [Region.wanted, yielded, Act.put]) (by have c0 := it_c0 (M5.row (b := b1) (c := ITR y.too (.slice (some ⟨y.g, 0, none⟩) 736 y.c)) (by simp)); go_simp) ?_
              refine wpT_valp 111 (v := .bool false) rfl rfl (by simp [Region.wanted, yielded, Act.put]) (by go_simp) ?_
              refine wpT_valp 112 (v := .bool false) rfl rfl rfl (by go_simp) ?_
              first | refine wpT_fin ?_ | dsimp only [wpT]
              try simp only [Act.put, List.setIfInBounds_toArray, List.set_cons_succ, List.set_cons_zero]
              go_upto_region 29 with fail
              refine wp_region_lin (.op 0 (.op 1 .done)) (by rfl) ?_
              refine wpT_valp 113 (v := .int .i64 j1) rfl rfl rfl (by have h := HJ1.out; go_simp) ?_
              refine wpT_valp 95 (v := .int .i64 j1) rfl rfl rfl (by go_simp) ?_
              first | refine wpT_fin ?_ | dsimp only [wpT]
              try simp only [Act.put, List.setIfInBounds_toArray, List.set_cons_succ, List.set_cons_zero]
              go_wp2_with fail
              go_roundw
              case rel => exact ⟨j1, by have := HJJ.out; omega, rfl, (Kq _ _ M5).2.1.sub (H' := []) (by simp), (Kq _ _ M5).1.1, (Kq _ _ M5).1.2⟩
              case measure => have := HJJ.out; simp only [intOf]; omega
            · obtain rfl : m2 = j := by omega
              have HXL := hid hXL
              have HOM := hid MO
              have M := MO
              clear hXL hXA MO
              go_upto_region 25 with fail
              refine wp_region_lin (.op 0 .done) (by rfl) ?_
              refine wpT_valp 96 (v := .bool false) rfl rfl rfl (by go_simp) ?_
              first | refine wpT_fin ?_ | dsimp only [wpT]
              try simp only [Act.put, List.setIfInBounds_toArray, List.set_cons_succ, List.set_cons_zero]
              go_upto_region 8 with fail
              refine wp_region_lin (.op 0 (.op 1 (.op 2 .done))) (by rfl) ?_
              refine wpT_valp 28 (v := .int .i64 i) rfl rfl rfl (by go_simp) ?_
              refine wpT_valp 29 (v := .int .i64 i1) rfl rfl rfl (by have h := HI1.out; go_simp) ?_
              refine wpT_valp 6 (v := .int .i64 i1) rfl rfl rfl (by go_simp) ?_
              first | refine wpT_fin ?_ | dsimp only [wpT]
              try simp only [Act.put, List.setIfInBounds_toArray, List.set_cons_succ, List.set_cons_zero]
              go_wp2_with fail
              go_roundw
              case rel => exact ⟨i1, Ml, u, by have := HII.out; omega, rfl, HOM.out, HXL.out, HOK2.out, HLE2.out⟩
              case measure => have := HII.out; simp only [intOf]; omega
      · have hlt60 : ¬ (i : Int) < 60 := by omega
        go_upto_region 7 with fail
        refine wp_region_lin (.op 0 (.op 1 (.op 2 (.op 3 (.op 4 (.op 5 (.op 6 (.op 7 .done)))))))) (by rfl) ?_
        refine wpT_valp 20 (v := .int .i64 i) rfl rfl rfl (by go_simp) ?_
        refine wpT_valp 21 (v := .slice ua n uc) rfl rfl rfl (by go_simp) ?_
        refine wpT_valp 22 (v := .int .i64 n) rfl rfl rfl (by go_simp) ?_
        refine wpT_valp 23 (v := .bool true) rfl rfl rfl (by go_simp) ?_
        try simp only [Act.put, List.setIfInBounds_toArray, List.set_cons_succ, List.set_cons_zero]
        refine wpT_valp 24 (v := .bool true) rfl rfl rfl (by go_simp) ?_
        refine wpT_valp 25 (v := .int .i64 i) rfl rfl (by simp [Region.wanted, yielded, Act.put]) (by go_simp) ?_
        refine wpT_valp 26 (v := .bool false) rfl rfl (by simp [Region.wanted, yielded, Act.put]) (by go_simp) ?_
        refine wpT_valp 27 (v := .bool false) rfl rfl rfl (by go_simp) ?_
        first | refine wpT_fin ?_ | dsimp only [wpT]
        try simp only [Act.put, List.setIfInBounds_toArray, List.set_cons_succ, List.set_cons_zero]
        go_upto_region 30 with fail
        refine wp_region_lin (.op 0 .done) (by rfl) ?_
        refine wpT_valp 4 (v := .bool true) rfl rfl rfl (by go_simp) ?_
        first | refine wpT_fin ?_ | dsimp only [wpT]
        try simp only [Act.put, List.setIfInBounds_toArray, List.set_cons_succ, List.set_cons_zero]
        go_wp2_with fail
        go_ret
        exact ⟨rfl, (K0 _ _ M).2.1.end_⟩
    · have hlt : ¬ (i : Int) < (n : Int) := by omega
      go_upto_region 7 with fail
      refine wp_region_lin (.op 0 (.op 1 (.op 2 (.op 3 (.op 4 (.op 5 (.op 6 (.op 7 .done)))))))) (by rfl) ?_
      refine wpT_valp 20 (v := .int .i64 i) rfl rfl rfl (by go_simp) ?_
      refine wpT_valp 21 (v := .slice ua n uc) rfl rfl rfl (by go_simp) ?_
      refine wpT_valp 22 (v := .int .i64 n) rfl rfl rfl (by go_simp) ?_
      refine wpT_valp 23 (v := .bool false) rfl rfl rfl (by go_simp) ?_
      try simp only [Act.put, List.setIfInBounds_toArray, List.set_cons_succ, List.set_cons_zero]
      refine wpT_valp 24 (v := .bool false) rfl rfl rfl (by go_simp) ?_
      refine wpT_unx 25 rfl rfl (by simp [Region.wanted, yielded, Act.put]) ?_
      try simp only [Act.put, List.setIfInBounds_toArray, List.set_cons_succ, List.set_cons_zero]
      refine wpT_unx 26 rfl rfl (by simp [Region.wanted, yielded, Act.put]) ?_
      try simp only [Act.put, List.setIfInBounds_toArray, List.set_cons_succ, List.set_cons_zero]
      refine wpT_valp 27 (v := .bool false) rfl rfl rfl (by go_simp) ?_
      first | refine wpT_fin ?_ | dsimp only [wpT]
      try simp only [Act.put, List.setIfInBounds_toArray, List.set_cons_succ, List.set_cons_zero]
      go_upto_region 30 with fail
      refine wp_region_lin (.op 0 .done) (by rfl) ?_
      refine wpT_valp 4 (v := .bool true) rfl rfl rfl (by go_simp) ?_
      first | refine wpT_fin ?_ | dsimp only [wpT]
      try simp only [Act.put, List.setIfInBounds_toArray, List.set_cons_succ, List.set_cons_zero]
      go_wp2_with fail
      go_ret
      exact ⟨rfl, (K0 _ _ M).2.1.end_⟩
end Go.Proofs.Ytojkcbhmhfjioaa
