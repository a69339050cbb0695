/-
  Package links: objects; Lose, All; own work.
-/
import Derived.Test.YtojkcbhmhfjioaaLk4
set_option linter.unusedSimpArgs false
set_option linter.unusedVariables false
namespace Go.Proofs.Ytojkcbhmhfjioaa
open Go.RowKit Lk
theorem BS.fr {F : Nat → Prop} {w w' : World} {v : Value} {l : B8} (h : BS w v l) (hf : Fr F w w') (hF : ∀ g, v.ownBlock = some g → ¬ F g) : BS w' v l :=
  SV.keep h fun k hk hlt => hf.block k hlt (hF k hk)
/-- bytes, of which we know that they are in this world -/
def BW (w : World) (v : Value) (l : B8) : Prop := BS w v l ∧ ∀ g, v.ownBlock = some g → g < w.heap.size
/-- links that have these packets -/
def LX (w : World) (B b : Nat) (room : Int) (M : List Pa) (u : List It × Value) : Prop := LO w B b room u.1 u.2 ∧ u.1.map It.ab = M
def LXF (b : Nat) (u : List It × Value) : Nat → Prop := LF b u.2 u.1
def LG (b : Nat) (u : List It × Value) (y : Value) : Nat → Prop := fun g => LF b u.2 u.1 g ∨ y.ownBlock = some g
section
variable {w w' : World} {B b : Nat} {room : Int} {M M2 : List Pa} {u : List It × Value} {q : Int}
theorem LX.stb (B b : Nat) (room : Int) (M : List Pa) (u : List It × Value) : Stb (LF b u.2 u.1) (fun w => LX w B b room M u) := ⟨fun h hf hd => ⟨h.1.fr hf hd, h.2⟩, fun h hg => (h.1.lt _ hg).2⟩
theorem LX.len (X : LX w B b room M u) : u.1.length = M.length := by rw [← X.2, List.length_map]
theorem LX.Bw (X : LX w B b room M u) : B ≤ w.heap.size := by have := X.1.lt b (.inl rfl); omega
theorem LX.below (X : LX w B b room M u) (hb : Below w.heap.size w w') : LX w' B b room M u := ⟨X.1.below hb, X.2⟩
theorem LPost.obj {L : List It} {v : Value} {e : Ending} (h : LPost w B b room v L (M2, q) e w') : ∃ u : List It × Value, e = .returned (.int .i64 q) ∧ LX w' B b room M2 u ∧ Fr (LF b v L) w w' ∧ ∀ g, LF b u.2 u.1 g → LF b v L g ∨ w.heap.size ≤ g := by
  obtain ⟨L', v', he, hR, hm, hf, hg⟩ := h
  exact ⟨(L', v'), he, ⟨hR, hm⟩, hf, hg⟩
theorem lput_e (w : World) (X : LX w B b room M u) (hrm : 0 < room) (too : Int) (uv : Value) (l : B8) (hB : BS w uv l) (h9 : M.length ≤ 5000) (hres : Lk.put room.toNat M (too, l) = (M2, q)) :
    Calls Try.prog 34 #[.pointer (some ⟨b, 0, none⟩), .agg (ITR too uv)] w fun e w' => ∃ u' : List It × Value, e = .returned (.int .i64 q) ∧ LX w' B b room M2 u' ∧ Fr (LF b u.2 u.1) w w' ∧ ∀ g, LF b u'.2 u'.1 g → LF b u.2 u.1 g ∨ w.heap.size ≤ g :=
  (lput_c w B b room u.1 u.2 X.1 hrm too uv l hB (by rw [X.len]; exact h9) (by rw [X.2]; exact hres)).mono fun e w' h => h.obj
theorem ltwice_e (w : World) (X : LX w B b room M u) (hrm : 0 < room) (i : Int) (h9 : M.length ≤ 5000) (hres : Lk.twice room.toNat M i = (M2, q)) :
    Calls Try.prog 29 #[.pointer (some ⟨b, 0, none⟩), .int .i64 i] w fun e w' => ∃ u' : List It × Value, e = .returned (.int .i64 q) ∧ LX w' B b room M2 u' ∧ Fr (LF b u.2 u.1) w w' ∧ ∀ g, LF b u'.2 u'.1 g → LF b u.2 u.1 g ∨ w.heap.size ≤ g :=
  (ltwice_c w B b room u.1 u.2 X.1 hrm i (by rw [X.len]; exact h9) (by rw [X.2]; exact hres)).mono fun e w' h => h.obj
theorem lturn_e (w : World) (X : LX w B b room M u) (hrm : 0 < room) (i at_ : Int) (bb : BitVec 8) (hres : Lk.turn M i at_ bb = (M2, q)) :
    Calls Try.prog 31 #[.pointer (some ⟨b, 0, none⟩), .int .i64 i, .int .i64 at_, U8 bb] w fun e w' => ∃ u' : List It × Value, e = .returned (.int .i64 q) ∧ LX w' B b room M2 u' ∧ Fr (LF b u.2 u.1) w w' ∧ ∀ g, LF b u'.2 u'.1 g → LF b u.2 u.1 g ∨ w.heap.size ≤ g :=
  (lturn_c w B b room u.1 u.2 X.1 hrm i at_ bb (by rw [X.2]; exact hres)).mono fun e w' h => h.obj
theorem llen_e (w : World) (X : LX w B b room M u) {m : Nat} (hm : M.length = m) :
    Calls Try.prog 36 #[.pointer (some ⟨b, 0, none⟩)] w fun e w' => e = .returned (.int .i64 m) ∧ Below w.heap.size w w' := llen_c w B b room u.1 u.2 X.1 (by rw [X.len, hm])
theorem ltake_e (w : World) (X : LX w B b room M u) (hrm : 0 < room) (i : Int) (h9 : M.length ≤ 5000) {x : Pa} (hres : Lk.take M i = (M2, x, q)) {yn : Nat} (hyn : x.2.length = yn) :
    Calls Try.prog 24 #[.pointer (some ⟨b, 0, none⟩), .int .i64 i] w fun e w' => ∃ u' : (List It × Value) × (Option Addr × Nat), e = .returned (.tuple #[.agg (ITR x.1 (.slice u'.2.1 yn u'.2.2)), .int .i64 q]) ∧ (LX w' B b room M2 u'.1 ∧ BW w' (.slice u'.2.1 yn u'.2.2) x.2) ∧ Fr (LF b u.2 u.1) w w' ∧
      ∀ g, LG b u'.1 (.slice u'.2.1 yn u'.2.2) g → LF b u.2 u.1 g ∨ w.heap.size ≤ g := by
  subst hyn
  refine (ltake_c (M2 := M2) (x := x) (q := q) w B b room u.1 u.2 X.1 hrm i (by rw [X.len]; exact h9) (by rw [X.2]; exact hres)).mono ?_
  rintro e w' ⟨L', v', y, he, hR, hm, hf, hg, hyn, hbs, hbl⟩
  exact ⟨((L', v'), y), he, ⟨⟨hR, hm⟩, hbs, fun g hg => Nat.lt_of_lt_of_le (X.1.lt g (hbl g hg).1).2 hf.size⟩, hf, fun g h => h.elim (hg g) (fun h => .inl (hbl g h).1)⟩
/-- the blocks of what was taken are below the world's end where they matter -/
theorem LG.stb (B b : Nat) (room : Int) (M : List Pa) (u : List It × Value) (y : Value) (l : B8) : Stb (LG b u y) (fun w => LX w B b room M u ∧ BW w y l) :=
  ⟨fun h hf hd => ⟨⟨h.1.1.fr hf (fun g hg => hd g (.inl hg)), h.1.2⟩, h.2.1.fr hf (fun g hg => hd g (.inr hg)), fun g hg => Nat.lt_of_lt_of_le (h.2.2 g hg) hf.size⟩, fun h hg => hg.elim (fun hg => (h.1.1.lt _ hg).2) (h.2.2 _)⟩
theorem lnew_e (w : World) (B : Nat) (n : Int) (hB : B ≤ w.heap.size) (h1 : 1 ≤ n) (h2 : n ≤ 4096) : Calls Try.prog 23 #[.int .i64 n] w fun e w' => ∃ b : Nat, e = .returned (.pointer (some ⟨b, 0, none⟩)) ∧ LX w' B b n [] ([], .slice none 0 0) ∧ Below w.heap.size w w' ∧ ∀ g, LF b (.slice none 0 0) [] g → w.heap.size ≤ g := by
  refine (lnew_c w n h1 h2).mono ?_
  rintro e w' ⟨b, he, hR, hb⟩
  refine ⟨b, he, ⟨⟨hR.row, Nat.le_trans hB hR.bb, ⟨Ow.nil _ _ _ _, (fun x hx => by cases hx), by simp, by simp⟩, hR.ne⟩, rfl⟩, hb, fun g hg => (hR.lt g hg).1⟩
end
theorem LX.done {w wz : World} {B b : Nat} {room : Int} {L : List It} {v : Value} {M2 : List Pa} {u : List It × Value} {q : Int} {y : Value} (R : LO w B b room L v) (X : LX wz B b room M2 u) (hf : Fr (LF b v L) w wz) (hF : ∀ g, LG b u y g → LF b v L g ∨ w.heap.size ≤ g) : LPost w B b room v L (M2, q) (.returned (.int .i64 q)) wz :=
  ⟨u.1, u.2, rfl, X.1, X.2, hf, fun g h => hF g (.inl h)⟩
theorem own_e (w : World) {L2 : List It} {u3 : Value} {B : Nat} (X : AO w B L2 u3) (too : Int) (v : Value) (l : B8) (hB : BS w v l) (hl : l.length = 736) (hBw : B ≤ w.heap.size) :
    Calls Try.prog 48 #[.agg (ITR too v)] w fun e w' => ∃ p : Nat × Nat, e = .returned (.agg (ITR too (.slice (some ⟨p.1, 0, none⟩) 736 p.2))) ∧ (OB w' B (.slice (some ⟨p.1, 0, none⟩) 736 p.2) l ∧ ¬ AF u3 L2 p.1) ∧ Below w.heap.size w w' ∧ ∀ g, g = p.1 → w.heap.size ≤ g := by
  refine (own_c w too v l hB hl).mono ?_
  rintro e w' ⟨p, he, hO, hb⟩
  have hp := (hO.at_ p.1 rfl).1
  exact ⟨p, he, ⟨hO.mono hBw, fun h => by have := (X.lt p.1 h).2; omega⟩, hb, fun g hg => by rw [hg]; exact hp⟩
theorem OBN.stb (B : Nat) (p : Nat × Nat) (l : B8) (u3 : Value) (L2 : List It) : Stb (fun g => g = p.1) (fun w => OB w B (.slice (some ⟨p.1, 0, none⟩) 736 p.2) l ∧ ¬ AF u3 L2 p.1) :=
  ⟨fun h hf hd => ⟨h.1.fr' hf (fun g hg => hd g (by simp only [Value.ownBlock, Option.some.injEq] at hg; exact hg.symm)), h.2⟩, fun h hg => by rw [hg]; exact (h.1.at_ _ rfl).2⟩
theorem AO.push {w1 wA : World} {B : Nat} {L2 : List It} {u3 ua : Value} {too : Int} {p : Nat × Nat} {l : B8} (A : AO w1 B L2 u3) (hO : OB w1 B (.slice (some ⟨p.1, 0, none⟩) 736 p.2) l) (hl : l.length = 736) (hd : ¬ AF u3 L2 p.1) (OA : Ow wA B 2 ua (L2.length + 1) (fl eI L2 ++ eI ⟨too, p.1, p.2, l⟩)) (hG : w1.grownBy wA (obk u3)) (BA : ∀ g, obk ua = some g → obk u3 = some g ∨ g = w1.heap.size) : AO wA B (L2 ++ [⟨too, p.1, p.2, l⟩]) ua := by
  have hp := (hO.at_ p.1 rfl).2
  refine ⟨by rw [List.length_append, fl_append, fl_one]; exact OA, fun x hx => ?_, ?_, fun g hg h => ?_⟩
  · rcases List.mem_append.1 hx with hx | hx
    · exact ⟨(A.pk x hx).1, (A.pk x hx).2.kept hG (.inr (fun e => A.nv x.g e.symm (List.mem_map.2 ⟨x, hx, rfl⟩)))⟩
    · rw [List.mem_singleton] at hx
      subst hx
      exact ⟨hl, hO.kept hG (.inr (fun e => hd (.inl e.symm)))⟩
  · rw [List.map_append, List.nodup_append]
    refine ⟨A.nd, by simp, fun a ha c hc e => ?_⟩
    simp only [List.map_cons, List.map_nil, List.mem_singleton] at hc
    subst hc; subst e; exact hd (.inr ha)
  · rw [List.map_append, List.mem_append] at h
    rcases h with h | h
    · rcases BA g hg with e | e
      · exact A.nv g e h
      · have := (A.lt g (.inr h)).2; omega
    · simp only [List.map_cons, List.map_nil, List.mem_singleton] at h
      subst h
      rcases BA _ hg with e | e
      · exact hd (.inl e)
      · omega
set_option maxRecDepth 100000
attribute [local irreducible] STR RSR wpT
set_option maxHeartbeats 4000000 in
theorem llose_c (w : World) (B b : Nat) (room : Int) (L : List It) (v : Value) (R : LO w B b room L v) (hrm : 0 < room) (i : Int) (h9 : L.length ≤ 5000) {M2 : List Pa} {x : Pa} {q : Int} (hres : Lk.take (L.map It.ab) i = (M2, x, q)) :
    Calls Try.prog 27 #[.pointer (some ⟨b, 0, none⟩), .int .i64 i] w (LPost w B b room v L (M2, q)) := by
  have HR := hid R
  obtain ⟨M, hM⟩ : ∃ M, L.map It.ab = M := ⟨_, rfl⟩
  have HM0 := hid hM
  have h9 : M.length ≤ 5000 := by rw [← hM, List.length_map]; exact h9
  rw [hM] at hres
  have HRES := hid hres
  obtain ⟨yn, hyn⟩ : ∃ n, x.2.length = n := ⟨_, rfl⟩
  have HYN := hid hyn
  clear R hM hres hyn
  have M0 := Mm.start (LF b v L) w
  go_enter Try.func27, Try.ntmps27
  go_upto_region 1 with fail
  obtain ⟨S1, M1, K1⟩ := M0.keep (LX.stb B b room M (L, v)) ⟨HR.out, HM0.out⟩ (fun q hq => by cases hq)
  refine wp_region_lin (.op 0 (.op 1 (.op 2 (.op 3 (.op 4 (.op 5 (.op 6 (.op 7 (.op 8 .done))))))))) (by rfl) ?_
  refine wpT_valp 8 (v := .pointer (some ⟨b, 0, none⟩)) rfl rfl rfl (by go_simp) ?_
  refine wpT_valp 9 (v := .int .i64 i) rfl rfl rfl (by go_simp) ?_
  refine wpT_obj (U := (List It × Value) × (Option Addr × Nat)) (fun u => .tuple #[.agg (ITR x.1 (.slice u.2.1 yn u.2.2)), .int .i64 q]) (fun u => LG b u.1 (.slice u.2.1 yn u.2.2)) (fun u w => LX w B b room M2 u.1 ∧ BW w (.slice u.2.1 yn u.2.2) x.2) (some 10) M1 K1 (fun g hg => .inl hg) rfl rfl rfl (by go_simp) (fun hX => ltake_e _ hX hrm i h9 HRES.out HYN.out) (fun u => LG.stb _ _ _ _ _ _ _) (fun u w2 S2 M2 K2 F2 => ?_)
  refine wpT_valp 7 (v := .tuple #[.agg (ITR x.1 (.slice u.2.1 yn u.2.2)), .int .i64 q]) rfl rfl rfl (by go_simp) ?_
  try simp only [Act.put, List.setIfInBounds_toArray, List.set_cons_succ, List.set_cons_zero]
  refine wpT_valp 11 (v := .agg (ITR x.1 (.slice u.2.1 yn u.2.2))) rfl rfl rfl (by go_simp) ?_
  refine wpT_valp 12 (v := .int .i64 q) rfl rfl rfl (by go_simp) ?_
  refine wpT_new (z := .agg (ITR 0 (.slice none 0 0))) 5 M2 (by kernel_rfl) (by decide) rfl rfl rfl rfl (fun b1 w2 M3 => ?_)
  try dsimp only [Value.cells] at M3
  refine wpT_st0 M3 0 (ITR x.1 (.slice u.2.1 yn u.2.2)) inf_itm rfl rfl rfl rfl (by go_simp) (by go_simp) (by simp [ITR_size, STR_size, RSR_size, AC6_size]) (by simp [ITR_size, STR_size, RSR_size, AC6_size]) (by simp [go_sem]) rfl (fun w4 M5 => ?_)
  dsimp only [List.set] at M5
  refine wpT_valp 6 (v := .int .i64 q) rfl rfl rfl (by go_simp) ?_
  first | dsimp only [wpT] | refine wpT_fin ?_
  try simp only [Act.put, List.setIfInBounds_toArray, List.set_cons_succ, List.set_cons_zero]
  go_upto_region 2 with fail
  refine wp_region_lin (.op 0 (.op 1 .done)) (by rfl) ?_
  refine wpT_valp 13 (v := .int .i64 q) rfl rfl rfl (by go_simp) ?_
  refine wpT_valp 4 (v := .int .i64 q) rfl rfl rfl (by go_simp) ?_
  first | dsimp only [wpT] | refine wpT_fin ?_
  try simp only [Act.put, List.setIfInBounds_toArray, List.set_cons_succ, List.set_cons_zero]
  go_wp2_with fail
  go_ret
  exact LX.done HR.out (K2 _ _ M5).1.1 (K2 _ _ M5).2.1.fr F2
set_option maxHeartbeats 4000000 in
theorem llose_b (w : World) (q : Value) (hq : BadL w q) (i : Int) :
    Calls Try.prog 27 #[q, .int .i64 i] w fun e w' => e = .returned (.int .i64 1) ∧ Below w.heap.size w w' := by
  have HQB := hid hq
  rcases hq with rfl | ⟨b, rfl, hrow, hb⟩
  ·
    have M0 := Mm.start no w
    go_enter Try.func27, Try.ntmps27
    go_upto_region 1 with fail
    refine wp_region_lin (.op 0 (.op 1 (.op 2 (.op 3 (.op 4 (.op 5 (.op 6 (.op 7 (.op 8 .done))))))))) (by rfl) ?_
    refine wpT_valp 8 (v := .pointer none) rfl rfl rfl (by go_simp) ?_
    refine wpT_valp 9 (v := .int .i64 i) rfl rfl rfl (by go_simp) ?_
    refine wpT_callv 10 M0 (v := .tuple #[.agg (ITR 0 (.slice none 0 0)), .int .i64 1]) rfl rfl rfl (by go_simp) (ltake_b w _ (HQB.out.below M0.end_) i) (fun w1 M2 => ?_)
    refine wpT_valp 7 (v := .tuple #[.agg (ITR 0 (.slice none 0 0)), .int .i64 1]) rfl rfl rfl (by go_simp) ?_
    try simp only [Act.put, List.setIfInBounds_toArray, List.set_cons_succ, List.set_cons_zero]
    refine wpT_valp 11 (v := .agg (ITR 0 (.slice none 0 0))) rfl rfl rfl (by go_simp) ?_
    refine wpT_valp 12 (v := .int .i64 1) rfl rfl rfl (by go_simp) ?_
    refine wpT_new (z := .agg (ITR 0 (.slice none 0 0))) 5 M2 (by kernel_rfl) (by decide) rfl rfl rfl rfl (fun b3 w4 M5 => ?_)
    try dsimp only [Value.cells] at M5
    refine wpT_st0 M5 0 (ITR 0 (.slice none 0 0)) inf_itm rfl rfl rfl rfl (by go_simp) (by go_simp) (by simp [ITR_size, STR_size, RSR_size, AC6_size]) (by simp [ITR_size, STR_size, RSR_size, AC6_size]) (by simp [go_sem]) rfl (fun w6 M7 => ?_)
    dsimp only [List.set] at M7
    refine wpT_valp 6 (v := .int .i64 1) rfl rfl rfl (by go_simp) ?_
    first | dsimp only [wpT] | refine wpT_fin ?_
    try simp only [Act.put, List.setIfInBounds_toArray, List.set_cons_succ, List.set_cons_zero]
    go_upto_region 2 with fail
    refine wp_region_lin (.op 0 (.op 1 .done)) (by rfl) ?_
    refine wpT_valp 13 (v := .int .i64 1) rfl rfl rfl (by go_simp) ?_
    refine wpT_valp 4 (v := .int .i64 1) rfl rfl rfl (by go_simp) ?_
    first | dsimp only [wpT] | refine wpT_fin ?_
    try simp only [Act.put, List.setIfInBounds_toArray, List.set_cons_succ, List.set_cons_zero]
    go_wp2_with fail
    go_ret
    exact ⟨rfl, M7.end_⟩
  ·
    have M0 := Mm.start no w
    go_enter Try.func27, Try.ntmps27
    go_upto_region 1 with fail
    refine wp_region_lin (.op 0 (.op 1 (.op 2 (.op 3 (.op 4 (.op 5 (.op 6 (.op 7 (.op 8 .done))))))))) (by rfl) ?_
    refine wpT_valp 8 (v := .pointer (some ⟨b, 0, none⟩)) rfl rfl rfl (by go_simp) ?_
    refine wpT_valp 9 (v := .int .i64 i) rfl rfl rfl (by go_simp) ?_
    refine wpT_callv 10 M0 (v := .tuple #[.agg (ITR 0 (.slice none 0 0)), .int .i64 1]) rfl rfl rfl (by go_simp) (ltake_b w _ (HQB.out.below M0.end_) i) (fun w1 M2 => ?_)
    refine wpT_valp 7 (v := .tuple #[.agg (ITR 0 (.slice none 0 0)), .int .i64 1]) rfl rfl rfl (by go_simp) ?_
    try simp only [Act.put, List.setIfInBounds_toArray, List.set_cons_succ, List.set_cons_zero]
    refine wpT_valp 11 (v := .agg (ITR 0 (.slice none 0 0))) rfl rfl rfl (by go_simp) ?_
    refine wpT_valp 12 (v := .int .i64 1) rfl rfl rfl (by go_simp) ?_
    refine wpT_new (z := .agg (ITR 0 (.slice none 0 0))) 5 M2 (by kernel_rfl) (by decide) rfl rfl rfl rfl (fun b3 w4 M5 => ?_)
    try dsimp only [Value.cells] at M5
    refine wpT_st0 M5 0 (ITR 0 (.slice none 0 0)) inf_itm rfl rfl rfl rfl (by go_simp) (by go_simp) (by simp [ITR_size, STR_size, RSR_size, AC6_size]) (by simp [ITR_size, STR_size, RSR_size, AC6_size]) (by simp [go_sem]) rfl (fun w6 M7 => ?_)
    dsimp only [List.set] at M7
    refine wpT_valp 6 (v := .int .i64 1) rfl rfl rfl (by go_simp) ?_
    first | dsimp only [wpT] | refine wpT_fin ?_
    try simp only [Act.put, List.setIfInBounds_toArray, List.set_cons_succ, List.set_cons_zero]
    go_upto_region 2 with fail
    refine wp_region_lin (.op 0 (.op 1 .done)) (by rfl) ?_
    refine wpT_valp 13 (v := .int .i64 1) rfl rfl rfl (by go_simp) ?_
    refine wpT_valp 4 (v := .int .i64 1) rfl rfl rfl (by go_simp) ?_
    first | dsimp only [wpT] | refine wpT_fin ?_
    try simp only [Act.put, List.setIfInBounds_toArray, List.set_cons_succ, List.set_cons_zero]
    go_wp2_with fail
    go_ret
    exact ⟨rfl, M7.end_⟩
set_option maxHeartbeats 4000000 in
theorem lall_c (w : World) (B b : Nat) (room : Int) (L : List It) (v : Value) (R : LO w B b room L v) (h9 : L.length ≤ 5000) :
    Calls Try.prog 37 #[.pointer (some ⟨b, 0, none⟩)] w fun e w' => ∃ u : List It × Value, e = .returned u.2 ∧ AO w' w.heap.size u.1 u.2 ∧ u.1.map It.ab = L.map It.ab ∧ Below w.heap.size w w' := by
  have HR := hid R
  have HROW : Hid (∀ w', Below w.heap.size w w' → w'.rowOf b = STR room v) := hid fun w' h => (R.below h).rowOf
  obtain ⟨va, vc, hv, _⟩ := R.ao.ow.shape
  obtain ⟨m, hm⟩ : ∃ n, L.length = n := ⟨_, rfl⟩
  have HLM := hid hm
  rw [hm] at hv h9
  subst hv
  have HSH : Hid (0 < m → ∃ g, va = some ⟨g, 0, none⟩) := hid fun h0 => by
    obtain ⟨g, c, e⟩ := ow_some R.ao.ow (by omega)
    injection e with e1 _ _
    exact ⟨g, e1⟩
  clear R hm
  have M0 := Mm.start no w
  go_enter Try.func37, Try.ntmps37
  go_upto_region 1 with fail
  refine wp_region_lin (.op 0 (.op 1 .done)) (by rfl) ?_
  refine wpT_valp 6 (v := .pointer (some ⟨b, 0, none⟩)) rfl rfl rfl (by go_simp) ?_
  refine wpT_valp 7 (v := .bool false) rfl rfl rfl (by go_simp) ?_
  first | dsimp only [wpT] | refine wpT_fin ?_
  try simp only [Act.put, List.setIfInBounds_toArray, List.set_cons_succ, List.set_cons_zero]
  go_upto_region 3 with fail
  refine wp_region_lin (.op 0 .done) (by rfl) ?_
  refine wpT_valp 3 (v := .slice none 0 0) rfl rfl rfl (by go_simp) ?_
  first | dsimp only [wpT] | refine wpT_fin ?_
  try simp only [Act.put, List.setIfInBounds_toArray, List.set_cons_succ, List.set_cons_zero]
  go_upto_region 4 with fail
  refine wp_region_lin (.op 0 (.op 1 (.op 2 (.op 3 (.op 4 (.op 5 .done)))))) (by rfl) ?_
  refine wpT_valp 8 (v := .pointer (some ⟨b, 0, none⟩)) rfl rfl rfl (by go_simp) ?_
  refine wpT_valp 9 (v := .pointer (some ⟨b, 0, none⟩)) rfl rfl rfl (by go_simp) ?_
  refine wpT_valp 10 (v := .pointer (some ⟨b, 1, none⟩)) rfl rfl rfl (by go_simp) ?_
  refine wpT_valp 11 (v := .slice va m vc) rfl rfl rfl (by have c0 := st_c1 (HROW.out _ M0.end_); go_simp) ?_
  try simp only [Act.put, List.setIfInBounds_toArray, List.set_cons_succ, List.set_cons_zero]
  refine wpT_valp 12 (v := .int .i64 m) rfl rfl rfl (by go_simp) ?_
  refine wpT_valp 13 (v := .int .i64 0) rfl rfl rfl (by go_simp) ?_
  first | dsimp only [wpT] | refine wpT_fin ?_
  try simp only [Act.put, List.setIfInBounds_toArray, List.set_cons_succ, List.set_cons_zero]
  go_wp2_with fail
  go_loopw [3, 13] (fun u3 x wr => ∃ (i : Nat) (L2 : List It), i ≤ m ∧ x = .int .i64 i ∧ Mm no w [] wr ∧ AO wr w.heap.size L2 u3 ∧ L2.map It.ab = (L.take i).map It.ab) (fun _ x _ => m - (intOf x).toNat)
  case atStart => exact ⟨0, [], by omega, rfl, M0, ⟨Ow.nil _ _ _ _, (fun x hx => by cases hx), by simp, by simp⟩, rfl⟩
  case round =>
    clear M0
    obtain ⟨i, L2, hi, rfl, MO, X, hmp⟩ := hrel
    have HMP := hid hmp
    have hl2 : L2.length = i := by
      have := congrArg List.length hmp
      rw [List.length_map, List.length_map, List.length_take, HLM.out] at this
      omega
    obtain ⟨n2, hn2⟩ : ∃ n, L2.length = n := ⟨_, rfl⟩
    have HN2 := hid hn2
    have hn29 : n2 ≤ 5000 := by omega
    have F0 : ∀ g, AF u3 L2 g → no g ∨ w.heap.size ≤ g := fun g hg => .inr (X.lt g hg).1
    by_cases hin : i < m
    · obtain ⟨S0, M, K0⟩ := MO.keep (AO.stb _ _ _) X (fun q hq => by cases hq)
      have hlt : (i : Int) < (m : Int) := by omega
      have hi00 : (0 : Int) ≤ (i : Int) := by omega
      obtain ⟨x, hx⟩ : ∃ x, L[i]? = some x := ⟨_, List.getElem?_eq_getElem (by have := HLM.out; omega)⟩
      have hyL := List.mem_of_getElem? hx
      obtain ⟨g, hva⟩ := HSH.out (by omega)
      subst hva
      have HEL : Hid (∀ w', Below w.heap.size w w' → exLoad Try.prog 72 (.pointer (some ⟨g, i * 2, none⟩)) w' = .ok (.value (.agg (ITR x.too (.slice (some ⟨x.g, 0, none⟩) 736 x.c)))) w') := hid fun w' h => by
        have := (HR.out.below h).ao.ow.sv
        rw [HLM.out] at this
        have := sv_itm this hx
        rwa [Nat.zero_add] at this
      have HBX : Hid (∀ w', Below w.heap.size w w' → BS w' (.slice (some ⟨x.g, 0, none⟩) 736 x.c) x.l) := hid fun w' h => ((HR.out.below h).ao.pk x hyL).2.bs
      have HLX := hid (HR.out.ao.pk x hyL).1
      obtain ⟨i1, hi1⟩ : ∃ j, j = i + 1 := ⟨_, rfl⟩
      have HI1 := hid (show IntKind.i64.wrap ((i : Int) + 1) = (i1 : Int) by rw [i64w (by omega) (by omega), hi1]; rfl)
      have HII := hid hi1
      have HTK : Hid (∀ p : Nat × Nat, (L2 ++ [(⟨x.too, p.1, p.2, x.l⟩ : It)]).map It.ab = (L.take i1).map It.ab) := hid fun p => by
        rw [hi1, ki_take hx, List.map_append, List.map_append, HMP.out]; rfl
      clear hx hyL hi1 MO X hmp hl2 hn2
      go_upto_region 5 with fail
      refine wp_region_lin (.op 0 .done) (by rfl) ?_
      refine wpT_valp 14 (v := .bool true) rfl rfl rfl (by go_simp) ?_
      first | dsimp only [wpT] | refine wpT_fin ?_
      try simp only [Act.put, List.setIfInBounds_toArray, List.set_cons_succ, List.set_cons_zero]
      go_upto_region 6 with fail
      refine wp_region_lin (.op 0 (.op 1 (.op 2 (.op 3 .done)))) (by rfl) ?_
      refine wpT_valp 15 (v := .pointer (some ⟨g, i * 2, none⟩)) rfl rfl rfl (by go_simp) ?_
      refine wpT_ldy 16 (.pointer (some ⟨g, i * 2, none⟩)) (.agg (ITR x.too (.slice (some ⟨x.g, 0, none⟩) 736 x.c))) rfl rfl rfl (by go_simp) (HEL.out _ (K0 _ _ M).2.1.end_) rfl ?_
      refine wpT_new (z := .agg (ITR 0 (.slice none 0 0))) 5 M (by kernel_rfl) (by decide) rfl rfl rfl rfl (fun b1 w2 M3 => ?_)
      try dsimp only [Value.cells] at M3
      refine wpT_st0 M3 0 (ITR x.too (.slice (some ⟨x.g, 0, none⟩) 736 x.c)) inf_itm rfl rfl rfl rfl (by go_simp) (by go_simp) (by simp [ITR_size, STR_size, RSR_size, AC6_size]) (by simp [ITR_size, STR_size, RSR_size, AC6_size]) (by simp [go_sem]) rfl (fun w4 M5 => ?_)
      dsimp only [List.set] at M5
      first | dsimp only [wpT] | refine wpT_fin ?_
      try simp only [Act.put, List.setIfInBounds_toArray, List.set_cons_succ, List.set_cons_zero]
      go_upto_region 7 with fail
      refine wp_region_lin (.op 0 (.op 1 (.op 2 (.op 3 (.op 4 (.op 5 .done)))))) (by rfl) ?_
      refine wpT_valp 17 (v := u3) rfl rfl rfl (by go_simp) ?_
      refine wpT_ld0 18 Try.underlying72 rfl inf_itm (b1) (ITR x.too (.slice (some ⟨x.g, 0, none⟩) 736 x.c)) rfl rfl rfl (by go_simp) (M5.row (b := b1) (c := ITR x.too (.slice (some ⟨x.g, 0, none⟩) 736 x.c)) (by simp)) (by simp [ITR_size, STR_size, RSR_size, AC6_size]) rfl ?_
      refine wpT_objN (U := Nat × Nat) (fun p => .agg (ITR x.too (.slice (some ⟨p.1, 0, none⟩) 736 p.2))) (fun p g => g = p.1) (fun p v => OB v w.heap.size (.slice (some ⟨p.1, 0, none⟩) 736 p.2) x.l ∧ ¬ AF u3 L2 p.1) (some 19) M5 K0 F0 (AO.stb _ _ _) rfl rfl rfl (by go_simp) (fun hX => own_e _ hX x.too _ x.l (HBX.out _ (K0 _ _ M5).2.1.end_) HLX.out (K0 _ _ M5).2.1.size) (fun p => OBN.stb _ _ _ _ _) (fun p w2 S2 M2 K2 F2 => ?_)
      refine wpT_one 20 _ M2 elt_itm (by decide) (ITR x.too (.slice (some ⟨p.1, 0, none⟩) 736 p.2)) ITR_size rfl rfl rfl (by go_simp) rfl (fun gx wgx Mgx => ?_)
      try simp only [Act.put, List.setIfInBounds_toArray, List.set_cons_succ, List.set_cons_zero]
      obtain ⟨hX, hMZ, hd⟩ := K2 _ _ Mgx
      refine wpT_gapp 21 _ _ (hMZ.sub (H' := []) (by simp)) elt_itm u3 (.slice (some ⟨gx, 0, none⟩) 1 1) n2 1 (fl eI L2) (eI ⟨x.too, p.1, p.2, x.l⟩) rfl rfl rfl rfl (by go_simp) (HN2.out ▸ hX.1.ow) (by go_simp) (sv_row (hMZ.row (b := gx) (c := ITR x.too (.slice (some ⟨p.1, 0, none⟩) 736 p.2)) (by simp)) (by unfold maxLen; decide)) rfl (one_eI _) (by omega) hMZ.size (fun y hy => ⟨F2 y (.inl (.inl hy)), fun q hq => by cases hq⟩) (fun ua2 wA OA MB GA BA => ?_)
      have HPU := hid (AO.push hX.1 hX.2.1 HLX.out hX.2.2 (by rw [HN2.out]; exact OA) GA BA)
      clear hX hMZ hd OA GA BA
      refine wpT_valp 3 (v := ua2) rfl rfl rfl (by go_simp) ?_
      first | dsimp only [wpT] | refine wpT_fin ?_
      try simp only [Act.put, List.setIfInBounds_toArray, List.set_cons_succ, List.set_cons_zero]
      go_upto_region 8 with fail
      refine wp_region_lin (.op 0 (.op 1 .done)) (by rfl) ?_
      refine wpT_valp 22 (v := .int .i64 i1) rfl rfl rfl (by have h := HI1.out; go_simp) ?_
      refine wpT_valp 13 (v := .int .i64 i1) rfl rfl rfl (by go_simp) ?_
      first | dsimp only [wpT] | refine wpT_fin ?_
      try simp only [Act.put, List.setIfInBounds_toArray, List.set_cons_succ, List.set_cons_zero]
      go_wp2_with fail
      go_roundw
      case rel => exact ⟨i1, _, by have := HII.out; omega, rfl, MB, HPU.out, HTK.out p⟩
      case measure => have := HII.out; simp only [intOf]; omega
    · obtain rfl : m = i := by omega
      rw [List.take_of_length_le (by have := HLM.out; omega)] at HMP
      obtain ⟨S1, M1, hS1, hT1⟩ := MO.rebase
      have HX := hid X
      have M := MO
      clear X hmp hl2 hn2 F0 MO M1 hS1 hT1
      go_upto_region 5 with fail
      refine wp_region_lin (.op 0 .done) (by rfl) ?_
      refine wpT_valp 14 (v := .bool false) rfl rfl rfl (by go_simp) ?_
      first | dsimp only [wpT] | refine wpT_fin ?_
      try simp only [Act.put, List.setIfInBounds_toArray, List.set_cons_succ, List.set_cons_zero]
      go_upto_region 9 with fail
      refine wp_region_lin (.op 0 (.op 1 .done)) (by rfl) ?_
      refine wpT_valp 23 (v := u3) rfl rfl rfl (by go_simp) ?_
      refine wpT_valp 2 (v := u3) rfl rfl rfl (by go_simp) ?_
      first | dsimp only [wpT] | refine wpT_fin ?_
      try simp only [Act.put, List.setIfInBounds_toArray, List.set_cons_succ, List.set_cons_zero]
      go_wp2_with fail
      go_ret
      exact ⟨(L2, u3), rfl, HX.out, HMP.out, M.end_⟩
set_option maxHeartbeats 4000000 in
theorem lall_b (w : World) (q : Value) (hq : BadL w q) :
    Calls Try.prog 37 #[q] w fun e w' => ∃ a c, e = .returned (.slice a 0 c) ∧ Below w.heap.size w w' := by
  rcases hq with rfl | ⟨b, rfl, hrow, hb⟩
  ·
    have M0 := Mm.start no w
    go_enter Try.func37, Try.ntmps37
    go_upto_region 1 with fail
    refine wp_region_lin (.op 0 (.op 1 .done)) (by rfl) ?_
    refine wpT_valp 6 (v := .pointer none) rfl rfl rfl (by go_simp) ?_
    refine wpT_valp 7 (v := .bool true) rfl rfl rfl (by go_simp) ?_
    first | dsimp only [wpT] | refine wpT_fin ?_
    try simp only [Act.put, List.setIfInBounds_toArray, List.set_cons_succ, List.set_cons_zero]
    go_upto_region 2 with fail
    refine wp_region_lin (.op 0 .done) (by rfl) ?_
    refine wpT_valp 2 (v := .slice none 0 0) rfl rfl rfl (by go_simp) ?_
    first | dsimp only [wpT] | refine wpT_fin ?_
    try simp only [Act.put, List.setIfInBounds_toArray, List.set_cons_succ, List.set_cons_zero]
    go_wp2_with fail
    go_ret
    exact ⟨_, _, rfl, M0.end_⟩
  · have HROW : Hid (∀ w', Below w.heap.size w w' → w'.rowOf b = STR 0 (.slice none 0 0)) := hid fun w' h => (below_row h hb).trans hrow
    clear hrow
    have M0 := Mm.start no w
    go_enter Try.func37, Try.ntmps37
    go_upto_region 1 with fail
    refine wp_region_lin (.op 0 (.op 1 .done)) (by rfl) ?_
    refine wpT_valp 6 (v := .pointer (some ⟨b, 0, none⟩)) rfl rfl rfl (by go_simp) ?_
    refine wpT_valp 7 (v := .bool false) rfl rfl rfl (by go_simp) ?_
    first | dsimp only [wpT] | refine wpT_fin ?_
    try simp only [Act.put, List.setIfInBounds_toArray, List.set_cons_succ, List.set_cons_zero]
    go_upto_region 3 with fail
    refine wp_region_lin (.op 0 .done) (by rfl) ?_
    refine wpT_valp 3 (v := .slice none 0 0) rfl rfl rfl (by go_simp) ?_
    first | dsimp only [wpT] | refine wpT_fin ?_
    try simp only [Act.put, List.setIfInBounds_toArray, List.set_cons_succ, List.set_cons_zero]
    go_upto_region 4 with fail
    refine wp_region_lin (.op 0 (.op 1 (.op 2 (.op 3 (.op 4 (.op 5 .done)))))) (by rfl) ?_
    refine wpT_valp 8 (v := .pointer (some ⟨b, 0, none⟩)) rfl rfl rfl (by go_simp) ?_
    refine wpT_valp 9 (v := .pointer (some ⟨b, 0, none⟩)) rfl rfl rfl (by go_simp) ?_
    refine wpT_valp 10 (v := .pointer (some ⟨b, 1, none⟩)) rfl rfl rfl (by go_simp) ?_
    refine wpT_valp 11 (v := .slice none 0 0) rfl rfl rfl (by have c0 := st_c1 (HROW.out _ M0.end_); go_simp) ?_
    try simp only [Act.put, List.setIfInBounds_toArray, List.set_cons_succ, List.set_cons_zero]
    refine wpT_valp 12 (v := .int .i64 0) rfl rfl rfl (by go_simp) ?_
    refine wpT_valp 13 (v := .int .i64 0) rfl rfl rfl (by go_simp) ?_
    first | dsimp only [wpT] | refine wpT_fin ?_
    try simp only [Act.put, List.setIfInBounds_toArray, List.set_cons_succ, List.set_cons_zero]
    go_wp2_with fail
    go_loopw [3, 13] (fun u3 x wr => u3 = .slice none 0 0 ∧ x = .int .i64 0 ∧ Mm no w [] wr) (fun _ _ _ => 0)
    case atStart => exact ⟨rfl, rfl, M0⟩
    case round =>
      clear M0
      obtain ⟨rfl, rfl, M⟩ := hrel
      go_upto_region 5 with fail
      refine wp_region_lin (.op 0 .done) (by rfl) ?_
      refine wpT_valp 14 (v := .bool false) rfl rfl rfl (by go_simp) ?_
      first | dsimp only [wpT] | refine wpT_fin ?_
      try simp only [Act.put, List.setIfInBounds_toArray, List.set_cons_succ, List.set_cons_zero]
      go_upto_region 9 with fail
      refine wp_region_lin (.op 0 (.op 1 .done)) (by rfl) ?_
      refine wpT_valp 23 (v := .slice none 0 0) rfl rfl rfl (by go_simp) ?_
      refine wpT_valp 2 (v := .slice none 0 0) rfl rfl rfl (by go_simp) ?_
      first | dsimp only [wpT] | refine wpT_fin ?_
      try simp only [Act.put, List.setIfInBounds_toArray, List.set_cons_succ, List.set_cons_zero]
      go_wp2_with fail
      go_ret
      exact ⟨_, _, rfl, M.end_⟩
end Go.Proofs.Ytojkcbhmhfjioaa
