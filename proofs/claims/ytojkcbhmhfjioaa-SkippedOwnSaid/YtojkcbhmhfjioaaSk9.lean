/-
  Law 18: ours, alive; own work.
-/
import Derived.Test.YtojkcbhmhfjioaaSk8
set_option linter.unusedSimpArgs false
set_option linter.unusedVariables false
namespace Go.Proofs.Ytojkcbhmhfjioaa
open Go.RowKit
theorem elt_key : Elt Try.prog 28 29 32 32 (.agg (cs U8 (zs 32))) := ⟨Try.underlying29, by kernel_rfl, by simp [Value.cells], by decide, by decide, one_eK Ky.zero, by decide⟩
theorem wpT_two {P : Program} {T TS : TypeId} {k bs : Nat} {z : Value} {ops : Array Oper} {Q : Exit → Act → World → Prop} {i : Nat} {t : Tr} {a : Act} {o : Oper} {S : Nat → Prop} {w0 w : World} {H : List (Nat × Array Value)} (dst : Nat) (x y : Operand) (M : Mm S w0 H w) (E : Elt P T TS k bs z) (hk : k ≤ 10000) (C D : Array Value) (hC : C.size = k) (hD : D.size = k) (hdst : o.dst = some dst) (ho : ops[i]? = some o) (hop : o.op = .buildSlice TS 2 #[(0, x), (1, y)])
    (hx : a.eval x = .agg C) (hy : a.eval y = .agg D) (hw : Region.wanted o (yielded ops a.tmps) = true)
    (h : ∀ b w', Mm S w0 ((b, C ++ D) :: H) w' → wpT P ops Q t (a.put (some dst) (.slice (some ⟨b, 0, none⟩) 2 2)) w') : wpT P ops Q (.op i t) a w := by
  obtain ⟨inf, hi0, hz0, hz1, hz2⟩ := info_parts E.i
  have hk0 := E.k0
  have e : (Array.map (fun (x : Nat × Operand) => (x.1, a.eval x.2)) #[(0, x), (1, y)]).toList = [(0, .agg C), (1, .agg D)] := by simp [hx, hy]
  refine wpT_bsl dst M (C ++ D) inf z E.u hi0 hz0 (by rw [hz1]; omega) (by rw [hz1]; omega) E.nb hdst ho hop ?_ hw (fun b w' M' _ _ => h b w' M')
  rw [hz1, e]
  have := fill_cat (fun i => some (i * k, k)) [(0, Value.agg C), (1, Value.agg D)] #[] ((Array.range (2 * k)).map (z.cells[· % z.cells.size]!)) (by simp [Cont, Value.cells, hC, hD]) (by simp [catP, Value.cells, hC, hD]; omega)
  rw [Array.empty_append, Array.empty_append] at this
  rw [this]; simp [catP, Value.cells]
theorem SO.stb (B b : Nat) (room : Int) (L : List Sk.En) (v : Value) : Stb (SF b v) (fun w => SO w B b room L v) := ⟨fun h hf hd => h.fr hf hd, fun h hg => (h.lt _ hg).2⟩
theorem snew_e (w : World) (B : Nat) (n : Int) (hB : B ≤ w.heap.size) (h1 : 1 ≤ n) (h2 : n ≤ 1000) : Calls Try.prog 11 #[.int .i64 n] w fun e w' => ∃ b : Nat, e = .returned (.pointer (some ⟨b, 0, none⟩)) ∧ SO w' B b n [] (.slice none 0 0) ∧ Below w.heap.size w w' ∧ ∀ g, SF b (.slice none 0 0) g → w.heap.size ≤ g := by
  refine (snew_c w n h1 h2).mono ?_
  rintro e w' ⟨b, he, hR, hb⟩
  exact ⟨b, he, hR.mono hB, hb, fun g hg => (hR.lt g hg).1⟩
section
variable {w : World} {B b : Nat} {room : Int} {L : List Sk.En} {v : Value}
theorem PutPost.obj {L' : List Sk.En} {q : Int} {e : Ending} {w' : World} (h : PutPost w B b room v (L', q) e w') : ∃ u : Value, e = .returned (.int .i64 q) ∧ SO w' B b room L' u ∧ Fr (SF b v) w w' ∧ ∀ g, SF b u g → SF b v g ∨ w.heap.size ≤ g := by
  obtain ⟨u, he, hR, hf, hg⟩ := h
  exact ⟨u, he, hR, hf, fun g h => h.elim (fun e => .inl (.inl e)) (fun e => (hg g e).imp .inr id)⟩
theorem sput_e (w : World) (R : SO w B b room L v) (hrm : 0 < room) (p : Ky) (f : Int) {u : Value} {ks : List Ky} (hK : SV w u ks.length (fl eK ks)) (h9 : L.length ≤ 100000) {L' : List Sk.En} {q : Int} (hres : Sk.put room.toNat L p f ks = (L', q)) :
    Calls Try.prog 13 #[.pointer (some ⟨b, 0, none⟩), .agg (cs U8 p.l), .int .i64 f, u] w fun e w' => ∃ u : Value, e = .returned (.int .i64 q) ∧ SO w' B b room L' u ∧ Fr (SF b v) w w' ∧ ∀ g, SF b u g → SF b v g ∨ w.heap.size ≤ g := by
  have := sput_c w B b room L v R hrm p f u ks hK h9
  rw [hres] at this
  exact this.mono fun e w' h => h.obj
theorem sdrop_e (w : World) (R : SO w B b room L v) (hrm : 0 < room) (p : Ky) (n : Int) (h9 : L.length ≤ 100000) {L' : List Sk.En} {q : Int} (hres : Sk.drop L p n = (L', q)) :
    Calls Try.prog 12 #[.pointer (some ⟨b, 0, none⟩), .agg (cs U8 p.l), .int .i64 n] w fun e w' => ∃ u : Value, e = .returned (.int .i64 q) ∧ SO w' B b room L' u ∧ Fr (SF b v) w w' ∧ ∀ g, SF b u g → SF b v g ∨ w.heap.size ≤ g := by
  have := sdrop_c w B b room L v R hrm p n h9
  rw [hres] at this
  exact this.mono fun e w' h => h.obj
theorem sget_e (w : World) (R : SO w B b room L v) (hrm : 0 < room) (p : Ky) (n : Int) {k : Ky} {q : Int} (hres : Sk.get L p n = (k, q)) :
    Calls Try.prog 18 #[.pointer (some ⟨b, 0, none⟩), .agg (cs U8 p.l), .int .i64 n] w fun e w' => e = .returned (.tuple #[.agg (cs U8 k.l), .int .i64 q]) ∧ Below w.heap.size w w' := by
  have := sget_c w B b room L v R hrm p n
  rw [hres] at this
  exact this
theorem sall_e (w : World) (R : SO w B b room L v) (hrm : 0 < room) (h9 : L.length ≤ 100000) {n : Nat} (hn : L.length = n) :
    Calls Try.prog 14 #[.pointer (some ⟨b, 0, none⟩)] w fun e w' => ∃ u, e = .returned u ∧ Ow w' w.heap.size 65 u n (fl eE L) ∧ Below w.heap.size w w' := by
  subst hn; exact sall_c w B b room L v R hrm h9
theorem sclo_e (w : World) (R : SO w B b room L v) (hrm : 0 < room) (h9 : L.length ≤ 100000) (hB : B ≤ w.heap.size) :
    Calls Try.prog 17 #[.pointer (some ⟨b, 0, none⟩)] w fun e w' => ∃ u : Nat × Value, e = .returned (.pointer (some ⟨u.1, 0, none⟩)) ∧ SO w' B u.1 room L u.2 ∧ Below w.heap.size w w' ∧ ∀ g, SF u.1 u.2 g → w.heap.size ≤ g := by
  refine (sclo_c w B b room L v R hrm h9).mono ?_
  rintro e w' ⟨b', u, he, hR, hb⟩
  exact ⟨(b', u), he, hR.mono hB, hb, fun g hg => (hR.lt g hg).1⟩
end
def ky (n : BitVec 8) : Ky := ⟨n :: zs 31, by simp [zs]⟩
theorem xb_ky1 (w : World) {k : Ky} (hk : k = ky 1) : exBuild Try.prog 28 #[(0, .int .u8 1)] w = .ok (.value (.agg (cs U8 k.l))) w := by
  subst hk; unfold exBuild; rw [run_build w _ _ (cs U8 (ky 1).l) (by kernel_rfl)]; rfl
theorem xb_ky2 (w : World) {k : Ky} (hk : k = ky 2) : exBuild Try.prog 28 #[(0, .int .u8 2)] w = .ok (.value (.agg (cs U8 k.l))) w := by
  subst hk; unfold exBuild; rw [run_build w _ _ (cs U8 (ky 2).l) (by kernel_rfl)]; rfl
theorem xb_ky3 (w : World) {k : Ky} (hk : k = ky 3) : exBuild Try.prog 28 #[(0, .int .u8 3)] w = .ok (.value (.agg (cs U8 k.l))) w := by
  subst hk; unfold exBuild; rw [run_build w _ _ (cs U8 (ky 3).l) (by kernel_rfl)]; rfl
theorem sv_k1 {w : World} {g : Nat} {k : Ky} (h : w.rowOf g = cs U8 k.l) : SV w (.slice (some ⟨g, 0, none⟩) 1 1) 1 (fl eK [k]) := by
  rw [fl_one]; exact sv_row h (by unfold maxLen; decide)
theorem sv_k2 {w : World} {g : Nat} {k l : Ky} (h : w.rowOf g = cs U8 k.l ++ cs U8 l.l) : SV w (.slice (some ⟨g, 0, none⟩) 2 2) 2 (fl eK [k, l]) := by
  refine ⟨_, _, rfl, Nat.le_refl _, by unfold maxLen; decide, fun _ => ⟨g, 0, rfl, fun i hi => ?_⟩⟩
  rw [cell_rowOf, h, Nat.zero_add, fl_cons, fl_one]
  simp [eK, ← Array.toList_append, ← Array.getElem?_toList]
def al1 : List Sk.En := [⟨ky 1, ky 2, 5⟩, ⟨ky 1, ky 3, 6⟩]
def al2 : List Sk.En := [⟨ky 1, ky 3, 6⟩]
attribute [local irreducible] ENR RSR STR wpT ky
set_option maxRecDepth 100000 in
set_option maxHeartbeats 4000000 in
theorem ours_c (w : World) (v : Value) (n : Nat) (L : List Sk.En) (hV : SV w v n (fl eE L)) (hn : L.length = n) (h9 : n ≤ 100000) :
    Calls Try.prog 21 #[v] w fun e w' => ∃ u, e = .returned u ∧ Ow w' w.heap.size 65 u n (fl eE L) ∧ Below w.heap.size w w' := by
  have HV := hid hV
  have HLM := hid hn
  obtain ⟨a, c, rfl, _⟩ := hV
  clear hn
  have M0 := Mm.start no w
  go_enter Try.func21, Try.ntmps21
  go_upto_region 2 with fail
  refine wp_region_lin (.op 0 (.op 1 (.op 2 .done))) (by rfl) ?_
  refine wpT_valp 6 (v := .slice a n c) rfl rfl rfl (by go_simp) ?_
  refine wpT_valp 7 (v := .int .i64 n) rfl rfl rfl (by go_simp) ?_
  refine wpT_valp 8 (v := .int .i64 0) rfl rfl rfl (by go_simp) ?_
  first | dsimp only [wpT] | refine wpT_fin ?_
  try simp only [Act.put, List.setIfInBounds_toArray, List.set_cons_succ, List.set_cons_zero]
  go_wp2_with fail
  go_loopw [3, 8] (fun u3 x wr => ∃ i : Nat, i ≤ n ∧ x = .int .i64 i ∧ Ow wr w.heap.size 65 u3 i (fl eE (L.take i)) ∧ Mm no w [] wr) (fun _ x _ => n - (intOf x).toNat)
  case atStart => exact ⟨0, by omega, rfl, Ow.nil _ _ _ _, M0⟩
  case round =>
    clear M0
    obtain ⟨i, hi, rfl, OU, M⟩ := hrel
    by_cases hin : i < n
    · have hlt : (i : Int) < (n : Int) := by omega
      have hi00 : (0 : Int) ≤ (i : Int) := by omega
      obtain ⟨x, hx⟩ : ∃ x, L[i]? = some x := ⟨_, List.getElem?_eq_getElem (by have := HLM.out; omega)⟩
      obtain ⟨g, o, c', e⟩ := sv_some eE_len (by decide) HV.out (by have := HLM.out; omega)
      injection e with e1 e2 e3
      subst e1
      clear e2 e3
      have HEL : Hid (∀ w', Below w.heap.size w w' → exLoad Try.prog 41 (.pointer (some ⟨g, o + i * 65, none⟩)) w' = .ok (.value (.agg (ENR x))) w') := hid fun w' h =>
        sv_load eE_len Try.underlying41 rfl inf_en (by decide) (SV.below HV.out h) hx (ENR x) rfl
      obtain ⟨i1, hi1⟩ : ∃ j, j = i + 1 := ⟨_, rfl⟩
      have HI1 := hid (show IntKind.i64.wrap ((i : Int) + 1) = (i1 : Int) by rw [i64w (by omega) (by omega), hi1]; rfl)
      have HTK := hid (show fl eE (L.take i) ++ eE x = fl eE (L.take i1) by rw [hi1, ki_take hx, fl_append, fl_one])
      have HII := hid hi1
      obtain ⟨S1, MR, hS1, hT1⟩ := M.rebase
      have HOM : Hid (∀ H' w', Mm S1 wr H' w' → Ow w' w.heap.size 65 u3 i (fl eE (L.take i))) := hid fun H' w' N => OU.fr N.fr (fun x hx h => by
        have h1 := hS1 x h
        simp at h1)
      have M := MR
      clear hx hi1 MR hS1 OU
      go_upto_region 3 with fail
      refine wp_region_lin (.op 0 .done) (by rfl) ?_
      refine wpT_valp 9 (v := .bool true) rfl rfl rfl (by go_simp) ?_
      first | dsimp only [wpT] | refine wpT_fin ?_
      try simp only [Act.put, List.setIfInBounds_toArray, List.set_cons_succ, List.set_cons_zero]
      go_upto_region 4 with fail
      refine wp_region_lin (.op 0 (.op 1 (.op 2 (.op 3 .done)))) (by rfl) ?_
      refine wpT_valp 10 (v := .pointer (some ⟨g, o + i * 65, none⟩)) rfl rfl rfl (by go_simp) ?_
      refine wpT_ldy 11 (.pointer (some ⟨g, o + i * 65, none⟩)) (.agg (ENR x)) rfl rfl rfl (by go_simp) (HEL.out _ (hT1 _ _ M).end_) rfl ?_
      refine wpT_new (z := .agg (ENR EZ)) 5 M (by kernel_rfl) (by decide) rfl rfl rfl rfl (fun b1 w2 M3 => ?_)
      try dsimp only [Value.cells] at M3
      refine wpT_st0 M3 0 (ENR x) inf_en rfl rfl rfl rfl (by go_simp) (by go_simp) (by simp [Ky.len, ENR_size, RSR_size, STR_size, ACS_size]) (by simp [Ky.len, ENR_size, RSR_size, STR_size, ACS_size]) (by simp [go_sem]) rfl (fun w4 M5 => ?_)
      dsimp only [List.set] at M5
      first | dsimp only [wpT] | refine wpT_fin ?_
      try simp only [Act.put, List.setIfInBounds_toArray, List.set_cons_succ, List.set_cons_zero]
      go_upto_region 5 with fail
      refine wp_region_lin (.op 0 (.op 1 (.op 2 (.op 3 (.op 4 (.op 5 (.op 6 (.op 7 (.op 8 (.op 9 (.op 10 .done))))))))))) (by rfl) ?_
      refine wpT_valp 12 (v := u3) rfl rfl rfl (by go_simp) ?_
      refine wpT_valp 13 (v := .pointer (some ⟨b1, 0, none⟩)) rfl rfl rfl (by go_simp) ?_
      refine wpT_ldm 14 Try.underlying28 rfl inf_key (b1) 0 (ENR x) (cs U8 x.pub.l) rfl rfl rfl (by go_simp) (M5.row (b := b1) (c := ENR x) (by simp)) (by simp [Ky.len, ENR_size, RSR_size, STR_size, ACS_size]) (en_p0) rfl ?_
      refine wpT_valp 15 (v := .pointer (some ⟨b1, 32, none⟩)) rfl rfl rfl (by go_simp) ?_
      try simp only [Act.put, List.setIfInBounds_toArray, List.set_cons_succ, List.set_cons_zero]
      refine wpT_ldm 16 Try.underlying28 rfl inf_key (b1) 32 (ENR x) (cs U8 x.key.l) rfl rfl rfl (by go_simp) (M5.row (b := b1) (c := ENR x) (by simp)) (by simp [Ky.len, ENR_size, RSR_size, STR_size, ACS_size]) (en_p32) rfl ?_
      refine wpT_valp 17 (v := .pointer (some ⟨b1, 64, none⟩)) rfl rfl rfl (by go_simp) ?_
      refine wpT_valp 18 (v := .int .i64 x.n) rfl rfl rfl (by have c0 := en_c64 (M5.row (b := b1) (c := ENR x) (by simp)); go_simp) ?_
      refine wpT_valL 19 (v := .agg (ENR x)) rfl rfl rfl (by have q := xb_ren3 w4 x; go_simp) ?_
      refine wpT_one 20 _ M5 elt_ren (by decide) (ENR x) ENR_size rfl rfl rfl (by go_simp) rfl (fun gx wgx Mgx => ?_)
      try simp only [Act.put, List.setIfInBounds_toArray, List.set_cons_succ, List.set_cons_zero]
      have MZ := hT1 _ _ Mgx
      have hOx := HOM.out _ _ Mgx
      refine wpT_gapp 21 _ _ (MZ.sub (H' := []) (by simp)) elt_ren (u3) (.slice (some ⟨gx, 0, none⟩) 1 1) i 1 (fl eE (L.take i)) (eE x) rfl rfl rfl rfl (by go_simp) hOx (by go_simp) (sv_row (Mgx.row (b := gx) (c := ENR x) (by simp)) (by unfold maxLen; decide)) (eE_len x) one_ENR (by omega) (by have := MZ.size; omega) (fun x hx => by
        have h1 := (hOx.at_ x hx).1
        refine ⟨.inr (by omega), fun p hp e => ?_⟩
        cases hp) (fun uy wOy Oy MOy _ _ => ?_)
      refine wpT_valp 3 (v := uy) rfl rfl rfl (by go_simp) ?_
      first | dsimp only [wpT] | refine wpT_fin ?_
      try simp only [Act.put, List.setIfInBounds_toArray, List.set_cons_succ, List.set_cons_zero]
      go_upto_region 6 with fail
      refine wp_region_lin (.op 0 (.op 1 .done)) (by rfl) ?_
      refine wpT_valp 22 (v := .int .i64 i1) rfl rfl rfl (by have h := HI1.out; go_simp) ?_
      refine wpT_valp 8 (v := .int .i64 i1) rfl rfl rfl (by go_simp) ?_
      first | dsimp only [wpT] | refine wpT_fin ?_
      try simp only [Act.put, List.setIfInBounds_toArray, List.set_cons_succ, List.set_cons_zero]
      go_wp2_with fail
      rw [HTK.out] at Oy
      have hii := HII.out
      rw [← hii] at Oy
      go_roundw
      case rel => exact ⟨i1, by omega, rfl, Oy, MOy⟩
      case measure => simp only [intOf]; omega
    · obtain rfl : n = i := by omega
      rw [List.take_of_length_le (by have := HLM.out; omega)] at OU
      obtain ⟨af, cf, rfl, _⟩ := OU.shape
      obtain ⟨S1, MR, hS1, hT1⟩ := M.rebase
      have HFIN : Hid (∀ H' w', Mm S1 wr H' w' → ∃ u, Ending.returned (.slice af n cf) = .returned u ∧ Ow w' w.heap.size 65 u n (fl eE L) ∧ Below w.heap.size w w') := hid fun H' w' N => ⟨_, rfl, OU.fr N.fr (fun x hx h => by
        have h1 := hS1 x h
        simp at h1), (hT1 _ _ N).end_⟩
      have HFIN := hid (fun w' N => HFIN.out [] w' N)
      have M := MR
      clear OU MR hS1 hT1
      go_upto_region 3 with fail
      refine wp_region_lin (.op 0 .done) (by rfl) ?_
      refine wpT_valp 9 (v := .bool false) rfl rfl rfl (by go_simp) ?_
      first | dsimp only [wpT] | refine wpT_fin ?_
      try simp only [Act.put, List.setIfInBounds_toArray, List.set_cons_succ, List.set_cons_zero]
      go_upto_region 7 with fail
      refine wp_region_lin (.op 0 (.op 1 .done)) (by rfl) ?_
      refine wpT_valp 23 (v := .slice af n cf) rfl rfl rfl (by go_simp) ?_
      refine wpT_valp 2 (v := .slice af n cf) rfl rfl rfl (by go_simp) ?_
      first | dsimp only [wpT] | refine wpT_fin ?_
      try simp only [Act.put, List.setIfInBounds_toArray, List.set_cons_succ, List.set_cons_zero]
      go_wp2_with fail
      go_ret
      exact HFIN.out _ M
set_option maxRecDepth 100000 in
set_option maxHeartbeats 8000000 in
theorem alive18_c (w : World) : Calls Try.prog 10 #[] w fun e w' => e = .returned (.bool true) ∧ Below w.heap.size w w' := by
  obtain ⟨k1, hk1⟩ : ∃ k, k = ky 1 := ⟨_, rfl⟩
  obtain ⟨k2, hk2⟩ : ∃ k, k = ky 2 := ⟨_, rfl⟩
  obtain ⟨k3, hk3⟩ : ∃ k, k = ky 3 := ⟨_, rfl⟩
  have HP1 := hid (show Sk.put (3 : Int).toNat [] k1 5 [k2, k3] = (al1, 0) by rw [hk1, hk2, hk3]; kernel_rfl)
  have HG1 := hid (show Sk.get al1 k1 6 = (k3, 0) by rw [hk1, hk3]; kernel_rfl)
  have HP2 := hid (show Sk.put (3 : Int).toNat al1 k1 6 [k2] = (al1, 10) by rw [hk1, hk2]; kernel_rfl)
  have HP3 := hid (show Sk.put (3 : Int).toNat al1 k2 0 [k2, k3] = (al1, 8) by rw [hk2, hk3]; kernel_rfl)
  have HP4 := hid (show Sk.drop al1 k1 5 = (al2, 0) by rw [hk1]; kernel_rfl)
  have HP5 := hid (show Sk.drop al2 k1 5 = (al2, 9) by rw [hk1]; kernel_rfl)
  have HK1 := hid hk1
  have HK2 := hid hk2
  have HK3 := hid hk3
  clear hk1 hk2 hk3
  obtain ⟨B, hB⟩ : ∃ B, B = w.heap.size := ⟨_, rfl⟩
  have HB := hid hB
  clear hB
  have M0 := Mm.start no w
  go_enter Try.func10, Try.ntmps10
  go_upto_region 1 with fail
  refine wp_region_lin (.op 0 (.op 1 .done)) (by rfl) ?_
  refine wpT_objS (U := Nat) (fun b => .pointer (some ⟨b, 0, none⟩)) (fun b => SF b (.slice none 0 0)) (fun b w => SO w B b 3 [] (.slice none 0 0)) (some 7) M0 rfl rfl rfl (by go_simp) (snew_e _ _ 3 (by rw [HB.out]; exact M0.size) (by decide) (by decide)) (fun b => SO.stb _ _ _ _ _) (fun b wn Sn Mn Kn Fn => ?_)
  refine wpT_valp 1 (v := .pointer (some ⟨b, 0, none⟩)) rfl rfl rfl (by go_simp) ?_
  first | dsimp only [wpT] | refine wpT_fin ?_
  try simp only [Act.put, List.setIfInBounds_toArray, List.set_cons_succ, List.set_cons_zero]
  go_upto_region 2 with fail
  refine wp_region_lin (.op 0 (.op 1 (.op 2 (.op 3 (.op 4 (.op 5 (.op 6 (.op 7 (.op 8 .done))))))))) (by rfl) ?_
  refine wpT_valL 8 (v := .agg (cs U8 k1.l)) rfl rfl rfl (by have q := xb_ky1 wn HK1.out; go_simp) ?_
  refine wpT_valL 9 (v := .agg (cs U8 k2.l)) rfl rfl rfl (by have q := xb_ky2 wn HK2.out; go_simp) ?_
  refine wpT_valL 10 (v := .agg (cs U8 k3.l)) rfl rfl rfl (by have q := xb_ky3 wn HK3.out; go_simp) ?_
  refine wpT_new (z := .agg (cs U8 (zs 32))) 2 Mn (by kernel_rfl) (by decide) rfl rfl rfl rfl (fun b1 w2 M3 => ?_)
  try dsimp only [Value.cells] at M3
  try simp only [Act.put, List.setIfInBounds_toArray, List.set_cons_succ, List.set_cons_zero]
  refine wpT_new (z := .agg (cs U8 (zs 32))) 3 M3 (by kernel_rfl) (by decide) rfl rfl rfl rfl (fun b4 w5 M6 => ?_)
  try dsimp only [Value.cells] at M6
  refine wpT_new (z := .agg (cs U8 (zs 32))) 4 M6 (by kernel_rfl) (by decide) rfl rfl rfl rfl (fun b7 w8 M9 => ?_)
  try dsimp only [Value.cells] at M9
  refine wpT_st0 M9 2 (cs U8 k1.l) inf_key rfl rfl rfl rfl (by go_simp) (by go_simp) (by simp [Ky.len, ENR_size, RSR_size, STR_size, ACS_size]) (by simp [Ky.len, ENR_size, RSR_size, STR_size, ACS_size]) (by simp [go_sem]) rfl (fun w10 M11 => ?_)
  dsimp only [List.set] at M11
  refine wpT_st0 M11 1 (cs U8 k2.l) inf_key rfl rfl rfl rfl (by go_simp) (by go_simp) (by simp [Ky.len, ENR_size, RSR_size, STR_size, ACS_size]) (by simp [Ky.len, ENR_size, RSR_size, STR_size, ACS_size]) (by simp [go_sem]) rfl (fun w12 M13 => ?_)
  dsimp only [List.set] at M13
  refine wpT_st0 M13 0 (cs U8 k3.l) inf_key rfl rfl rfl rfl (by go_simp) (by go_simp) (by simp [Ky.len, ENR_size, RSR_size, STR_size, ACS_size]) (by simp [Ky.len, ENR_size, RSR_size, STR_size, ACS_size]) (by simp [go_sem]) rfl (fun w14 M15 => ?_)
  dsimp only [List.set] at M15
  first | dsimp only [wpT] | refine wpT_fin ?_
  try simp only [Act.put, List.setIfInBounds_toArray, List.set_cons_succ, List.set_cons_zero]
  go_upto_region 3 with fail
  refine wp_region_lin (.op 0 (.op 1 (.op 2 (.op 3 (.op 4 (.op 5 (.op 6 (.op 7 (.op 8 (.op 9 (.op 10 .done))))))))))) (by rfl) ?_
  refine wpT_valp 11 (v := .pointer (some ⟨b, 0, none⟩)) rfl rfl rfl (by go_simp) ?_
  refine wpT_valp 12 (v := .bool false) rfl rfl rfl (by go_simp) ?_
  refine wpT_valp 13 (v := .bool false) rfl rfl rfl (by go_simp) ?_
  refine wpT_valp 14 (v := .pointer (some ⟨b, 0, none⟩)) rfl rfl (by simp [Region.wanted, yielded, Act.put]) (by go_simp) ?_
  try simp only [Act.put, List.setIfInBounds_toArray, List.set_cons_succ, List.set_cons_zero]
  refine wpT_ld0 15 Try.underlying28 rfl inf_key (b1) (cs U8 k1.l) rfl rfl rfl (by go_simp) (M15.row (b := b1) (c := cs U8 k1.l) (by simp)) (by simp [Ky.len, ENR_size, RSR_size, STR_size, ACS_size]) (by simp [Region.wanted, yielded, Act.put]) ?_
  refine wpT_ld0 16 Try.underlying28 rfl inf_key (b4) (cs U8 k2.l) rfl rfl rfl (by go_simp) (M15.row (b := b4) (c := cs U8 k2.l) (by simp)) (by simp [Ky.len, ENR_size, RSR_size, STR_size, ACS_size]) (by simp [Region.wanted, yielded, Act.put]) ?_
  refine wpT_ld0 17 Try.underlying28 rfl inf_key (b7) (cs U8 k3.l) rfl rfl rfl (by go_simp) (M15.row (b := b7) (c := cs U8 k3.l) (by simp)) (by simp [Ky.len, ENR_size, RSR_size, STR_size, ACS_size]) (by simp [Region.wanted, yielded, Act.put]) ?_
  refine wpT_two 18 _ _ M15 elt_key (by decide) (cs U8 k2.l) (cs U8 k3.l) (by simp) (by simp) rfl rfl rfl (by go_simp) (by go_simp) (by simp [Region.wanted, yielded, Act.put]) (fun g1 wg1 Mg1 => ?_)
  refine wpT_obj (U := Value) (fun u1 => .int .i64 0) (fun u1 => SF b u1) (fun u1 => fun w => SO w B b 3 al1 u1) (some 19) Mg1 Kn Fn rfl rfl (by simp [Region.wanted, yielded, Act.put]) (by go_simp) (fun hX => sput_e _ hX (by decide) _ _ (sv_k2 (Mg1.row (b := g1) (c := cs U8 k2.l ++ cs U8 k3.l) (by simp))) (by decide) HP1.out) (fun u1 => SO.stb _ _ _ _ _) (fun u1 w1 Sw1 Mw1 K1 F1 => ?_)
  try simp only [Act.put, List.setIfInBounds_toArray, List.set_cons_succ, List.set_cons_zero]
  refine wpT_valp 20 (v := .bool false) rfl rfl (by simp [Region.wanted, yielded, Act.put]) (by go_simp) ?_
  refine wpT_valp 21 (v := .bool false) rfl rfl rfl (by go_simp) ?_
  first | dsimp only [wpT] | refine wpT_fin ?_
  try simp only [Act.put, List.setIfInBounds_toArray, List.set_cons_succ, List.set_cons_zero]
  go_upto_region 5 with fail
  refine wp_region_lin (.op 0 (.op 1 (.op 2 (.op 3 (.op 4 (.op 5 (.op 6 (.op 7 (.op 8 .done))))))))) (by rfl) ?_
  refine wpT_valp 23 (v := .pointer (some ⟨b, 0, none⟩)) rfl rfl rfl (by go_simp) ?_
  refine wpT_ld0 24 Try.underlying28 rfl inf_key (b1) (cs U8 k1.l) rfl rfl rfl (by go_simp) (Mw1.row (b := b1) (c := cs U8 k1.l) (by simp)) (by simp [Ky.len, ENR_size, RSR_size, STR_size, ACS_size]) rfl ?_
  refine wpT_callv 25 Mw1 (v := .tuple #[.agg (cs U8 k3.l), .int .i64 0]) rfl rfl rfl (by go_simp) (sget_e _ (K1 _ _ Mw1).1 (by decide) _ _ HG1.out) (fun w16 M17 => ?_)
  refine wpT_valp 22 (v := .tuple #[.agg (cs U8 k3.l), .int .i64 0]) rfl rfl rfl (by go_simp) ?_
  try simp only [Act.put, List.setIfInBounds_toArray, List.set_cons_succ, List.set_cons_zero]
  refine wpT_valp 26 (v := .agg (cs U8 k3.l)) rfl rfl rfl (by go_simp) ?_
  refine wpT_valp 27 (v := .int .i64 0) rfl rfl rfl (by go_simp) ?_
  refine wpT_new (z := .agg (cs U8 (zs 32))) 5 M17 (by kernel_rfl) (by decide) rfl rfl rfl rfl (fun b18 w19 M20 => ?_)
  try dsimp only [Value.cells] at M20
  refine wpT_st0 M20 0 (cs U8 k3.l) inf_key rfl rfl rfl rfl (by go_simp) (by go_simp) (by simp [Ky.len, ENR_size, RSR_size, STR_size, ACS_size]) (by simp [Ky.len, ENR_size, RSR_size, STR_size, ACS_size]) (by simp [go_sem]) rfl (fun w21 M22 => ?_)
  dsimp only [List.set] at M22
  refine wpT_valp 6 (v := .int .i64 0) rfl rfl rfl (by go_simp) ?_
  first | dsimp only [wpT] | refine wpT_fin ?_
  try simp only [Act.put, List.setIfInBounds_toArray, List.set_cons_succ, List.set_cons_zero]
  go_upto_region 6 with fail
  refine wp_region_lin (.op 0 (.op 1 (.op 2 (.op 3 (.op 4 (.op 5 (.op 6 (.op 7 (.op 8 (.op 9 (.op 10 (.op 11 (.op 12 (.op 13 (.op 14 (.op 15 (.op 16 (.op 17 (.op 18 (.op 19 (.op 20 (.op 21 (.op 22 (.op 23 (.op 24 (.op 25 (.op 26 (.op 27 (.op 28 (.op 29 (.op 30 (.op 31 (.op 32 (.op 33 (.op 34 (.op 35 (.op 36 (.op 37 (.op 38 (.op 39 (.op 40 (.op 41 (.op 42 .done))))))))))))))))))))))))))))))))))))))))))) (by rfl) ?_
  refine wpT_ld0 28 Try.underlying28 rfl inf_key (b18) (cs U8 k3.l) rfl rfl rfl (by go_simp) (M22.row (b := b18) (c := cs U8 k3.l) (by simp)) (by simp [Ky.len, ENR_size, RSR_size, STR_size, ACS_size]) rfl ?_
  refine wpT_ld0 29 Try.underlying28 rfl inf_key (b7) (cs U8 k3.l) rfl rfl rfl (by go_simp) (M22.row (b := b7) (c := cs U8 k3.l) (by simp)) (by simp [Ky.len, ENR_size, RSR_size, STR_size, ACS_size]) rfl ?_
  refine wpT_valp 30 (v := .bool true) rfl rfl rfl (by have q := eqin_key w21 k3.l k3.l (by simp) (by simp); go_simp) ?_
  refine wpT_valp 31 (v := .bool true) rfl rfl rfl (by go_simp) ?_
  try simp only [Act.put, List.setIfInBounds_toArray, List.set_cons_succ, List.set_cons_zero]
  refine wpT_valp 32 (v := .int .i64 0) rfl rfl (by simp [Region.wanted, yielded, Act.put]) (by go_simp) ?_
  refine wpT_valp 33 (v := .bool true) rfl rfl (by simp [Region.wanted, yielded, Act.put]) (by go_simp) ?_
  refine wpT_valp 34 (v := .bool true) rfl rfl rfl (by go_simp) ?_
  refine wpT_valp 35 (v := .bool true) rfl rfl rfl (by go_simp) ?_
  refine wpT_valp 36 (v := .pointer (some ⟨b, 0, none⟩)) rfl rfl (by simp [Region.wanted, yielded, Act.put]) (by go_simp) ?_
  try simp only [Act.put, List.setIfInBounds_toArray, List.set_cons_succ, List.set_cons_zero]
  refine wpT_ld0 37 Try.underlying28 rfl inf_key (b1) (cs U8 k1.l) rfl rfl rfl (by go_simp) (M22.row (b := b1) (c := cs U8 k1.l) (by simp)) (by simp [Ky.len, ENR_size, RSR_size, STR_size, ACS_size]) (by simp [Region.wanted, yielded, Act.put]) ?_
  refine wpT_ld0 38 Try.underlying28 rfl inf_key (b4) (cs U8 k2.l) rfl rfl rfl (by go_simp) (M22.row (b := b4) (c := cs U8 k2.l) (by simp)) (by simp [Ky.len, ENR_size, RSR_size, STR_size, ACS_size]) (by simp [Region.wanted, yielded, Act.put]) ?_
  refine wpT_one 39 _ M22 elt_key (by decide) (cs U8 k2.l) (by simp) rfl rfl rfl (by go_simp) (by simp [Region.wanted, yielded, Act.put]) (fun g2 wg2 Mg2 => ?_)
  refine wpT_obj (U := Value) (fun u2 => .int .i64 10) (fun u2 => SF b u2) (fun u2 => fun w => SO w B b 3 al1 u2) (some 40) Mg2 K1 F1 rfl rfl (by simp [Region.wanted, yielded, Act.put]) (by go_simp) (fun hX => sput_e _ hX (by decide) _ _ (sv_k1 (Mg2.row (b := g2) (c := cs U8 k2.l) (by simp))) (by decide) HP2.out) (fun u2 => SO.stb _ _ _ _ _) (fun u2 w2 Sw2 Mw2 K2 F2 => ?_)
  refine wpT_valp 41 (v := .bool true) rfl rfl (by simp [Region.wanted, yielded, Act.put]) (by go_simp) ?_
  try simp only [Act.put, List.setIfInBounds_toArray, List.set_cons_succ, List.set_cons_zero]
  refine wpT_valp 42 (v := .bool true) rfl rfl rfl (by go_simp) ?_
  refine wpT_valp 43 (v := .bool true) rfl rfl rfl (by go_simp) ?_
  refine wpT_valp 44 (v := .pointer (some ⟨b, 0, none⟩)) rfl rfl (by simp [Region.wanted, yielded, Act.put]) (by go_simp) ?_
  refine wpT_ld0 45 Try.underlying28 rfl inf_key (b4) (cs U8 k2.l) rfl rfl rfl (by go_simp) (Mw2.row (b := b4) (c := cs U8 k2.l) (by simp)) (by simp [Ky.len, ENR_size, RSR_size, STR_size, ACS_size]) (by simp [Region.wanted, yielded, Act.put]) ?_
  refine wpT_ld0 46 Try.underlying28 rfl inf_key (b4) (cs U8 k2.l) rfl rfl rfl (by go_simp) (Mw2.row (b := b4) (c := cs U8 k2.l) (by simp)) (by simp [Ky.len, ENR_size, RSR_size, STR_size, ACS_size]) (by simp [Region.wanted, yielded, Act.put]) ?_
  try simp only [Act.put, List.setIfInBounds_toArray, List.set_cons_succ, List.set_cons_zero]
  refine wpT_ld0 47 Try.underlying28 rfl inf_key (b7) (cs U8 k3.l) rfl rfl rfl (by go_simp) (Mw2.row (b := b7) (c := cs U8 k3.l) (by simp)) (by simp [Ky.len, ENR_size, RSR_size, STR_size, ACS_size]) (by simp [Region.wanted, yielded, Act.put]) ?_
  refine wpT_two 48 _ _ Mw2 elt_key (by decide) (cs U8 k2.l) (cs U8 k3.l) (by simp) (by simp) rfl rfl rfl (by go_simp) (by go_simp) (by simp [Region.wanted, yielded, Act.put]) (fun g3 wg3 Mg3 => ?_)
  refine wpT_obj (U := Value) (fun u3 => .int .i64 8) (fun u3 => SF b u3) (fun u3 => fun w => SO w B b 3 al1 u3) (some 49) Mg3 K2 F2 rfl rfl (by simp [Region.wanted, yielded, Act.put]) (by go_simp) (fun hX => sput_e _ hX (by decide) _ _ (sv_k2 (Mg3.row (b := g3) (c := cs U8 k2.l ++ cs U8 k3.l) (by simp))) (by decide) HP3.out) (fun u3 => SO.stb _ _ _ _ _) (fun u3 w3 Sw3 Mw3 K3 F3 => ?_)
  refine wpT_valp 50 (v := .bool true) rfl rfl (by simp [Region.wanted, yielded, Act.put]) (by go_simp) ?_
  refine wpT_valp 51 (v := .bool true) rfl rfl rfl (by go_simp) ?_
  try simp only [Act.put, List.setIfInBounds_toArray, List.set_cons_succ, List.set_cons_zero]
  refine wpT_valp 52 (v := .bool true) rfl rfl rfl (by go_simp) ?_
  refine wpT_valp 53 (v := .pointer (some ⟨b, 0, none⟩)) rfl rfl (by simp [Region.wanted, yielded, Act.put]) (by go_simp) ?_
  refine wpT_ld0 54 Try.underlying28 rfl inf_key (b1) (cs U8 k1.l) rfl rfl rfl (by go_simp) (Mw3.row (b := b1) (c := cs U8 k1.l) (by simp)) (by simp [Ky.len, ENR_size, RSR_size, STR_size, ACS_size]) (by simp [Region.wanted, yielded, Act.put]) ?_
  refine wpT_obj (U := Value) (fun u4 => .int .i64 0) (fun u4 => SF b u4) (fun u4 => fun w => SO w B b 3 al2 u4) (some 55) Mw3 K3 F3 rfl rfl (by simp [Region.wanted, yielded, Act.put]) (by go_simp) (fun hX => sdrop_e _ hX (by decide) _ _ (by decide) HP4.out) (fun u4 => SO.stb _ _ _ _ _) (fun u4 w4 Sw4 Mw4 K4 F4 => ?_)
  refine wpT_valp 56 (v := .bool true) rfl rfl (by simp [Region.wanted, yielded, Act.put]) (by go_simp) ?_
  try simp only [Act.put, List.setIfInBounds_toArray, List.set_cons_succ, List.set_cons_zero]
  refine wpT_valp 57 (v := .bool true) rfl rfl rfl (by go_simp) ?_
  refine wpT_valp 58 (v := .bool true) rfl rfl rfl (by go_simp) ?_
  refine wpT_valp 59 (v := .pointer (some ⟨b, 0, none⟩)) rfl rfl (by simp [Region.wanted, yielded, Act.put]) (by go_simp) ?_
  refine wpT_ld0 60 Try.underlying28 rfl inf_key (b1) (cs U8 k1.l) rfl rfl rfl (by go_simp) (Mw4.row (b := b1) (c := cs U8 k1.l) (by simp)) (by simp [Ky.len, ENR_size, RSR_size, STR_size, ACS_size]) (by simp [Region.wanted, yielded, Act.put]) ?_
  refine wpT_obj (U := Value) (fun u5 => .int .i64 9) (fun u5 => SF b u5) (fun u5 => fun w => SO w B b 3 al2 u5) (some 61) Mw4 K4 F4 rfl rfl (by simp [Region.wanted, yielded, Act.put]) (by go_simp) (fun hX => sdrop_e _ hX (by decide) _ _ (by decide) HP5.out) (fun u5 => SO.stb _ _ _ _ _) (fun u5 w5 Sw5 Mw5 K5 F5 => ?_)
  try simp only [Act.put, List.setIfInBounds_toArray, List.set_cons_succ, List.set_cons_zero]
  refine wpT_valp 62 (v := .bool true) rfl rfl (by simp [Region.wanted, yielded, Act.put]) (by go_simp) ?_
  refine wpT_valp 63 (v := .bool true) rfl rfl rfl (by go_simp) ?_
  refine wpT_valp 64 (v := .bool true) rfl rfl rfl (by go_simp) ?_
  refine wpT_valp 65 (v := .pointer (some ⟨b, 0, none⟩)) rfl rfl (by simp [Region.wanted, yielded, Act.put]) (by go_simp) ?_
  refine wpT_ownew 66 Mw5 rfl rfl (by simp [Region.wanted, yielded, Act.put]) (by go_simp) (sall_e _ (K5 _ _ Mw5).1 (by decide) (by decide) (n := 1) rfl) (fun u6 w6 O6 M6 => ?_)
  obtain ⟨xa, xc, rfl, _⟩ := O6.shape
  clear O6
  try simp only [Act.put, List.setIfInBounds_toArray, List.set_cons_succ, List.set_cons_zero]
  refine wpT_valp 67 (v := .int .i64 1) rfl rfl (by simp [Region.wanted, yielded, Act.put]) (by go_simp) ?_
  refine wpT_valp 68 (v := .bool true) rfl rfl (by simp [Region.wanted, yielded, Act.put]) (by go_simp) ?_
  refine wpT_valp 69 (v := .bool true) rfl rfl rfl (by go_simp) ?_
  refine wpT_valp 0 (v := .bool true) rfl rfl rfl (by go_simp) ?_
  first | dsimp only [wpT] | refine wpT_fin ?_
  try simp only [Act.put, List.setIfInBounds_toArray, List.set_cons_succ, List.set_cons_zero]
  go_wp2_with fail
  go_ret
  exact ⟨rfl, (K5 _ _ M6).2.1.end_⟩
end Go.Proofs.Ytojkcbhmhfjioaa
