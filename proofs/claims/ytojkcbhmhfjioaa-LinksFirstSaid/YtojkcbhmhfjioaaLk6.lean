/-
  Law 26: alive; own work.
-/
import Derived.Test.YtojkcbhmhfjioaaLk5
set_option linter.unusedSimpArgs false
set_option linter.unusedVariables false
namespace Go.Proofs.Ytojkcbhmhfjioaa
open Go.RowKit Lk
theorem Keeps.add {S S1 : Nat → Prop} {w0 w1 w : World} {H : List (Nat × Array Value)} {F G : Nat → Prop} {X Y : World → Prop} (K : Keeps S w0 S1 w1 F X) (M : Mm S1 w1 H w) (sX : Stb F X) (sY : Stb G Y) (hY : Y w) (hd : ∀ p ∈ H, ¬ G p.1) : ∃ S2, Mm S2 w H w ∧ Keeps S w0 S2 w (fun g => F g ∨ G g) (fun w => X w ∧ Y w) := by
  obtain ⟨hX, MO, hd1⟩ := K _ _ M
  exact MO.keep (sX.and sY) ⟨hX, hY⟩ (fun p hp h => h.elim (hd1 p hp) (hd p hp))
theorem BW.stbx (v : Value) (l : B8) : Stb (fun g => v.ownBlock = some g) (fun w => BW w v l) :=
  ⟨fun h hf hd => ⟨h.1.fr hf hd, fun g hg => Nat.lt_of_lt_of_le (h.2 g hg) hf.size⟩, fun h hg => h.2 _ hg⟩
/-- links, and bytes that are none of theirs -/
structure LXB (w : World) (B b : Nat) (room : Int) (M : List Pa) (u : List It × Value) (y : Value) (l : B8) : Prop where
  lx : LX w B b room M u
  bw : BW w y l
  dj : ∀ g, y.ownBlock = some g → ¬ LF b u.2 u.1 g
section
variable {w w' : World} {B b : Nat} {room : Int} {M M2 : List Pa} {u : List It × Value} {y : Value} {l : B8} {q : Int}
theorem LXB.stb (B b : Nat) (room : Int) (M : List Pa) (u : List It × Value) (y : Value) (l : B8) : Stb (LG b u y) (fun w => LXB w B b room M u y l) :=
  ⟨fun h hf hd => ⟨⟨h.lx.1.fr hf (fun g hg => hd g (.inl hg)), h.lx.2⟩, (BW.stbx y l).fr h.bw hf (fun g hg => hd g (.inr hg)), h.dj⟩, fun h hg => hg.elim (fun hg => (h.lx.1.lt _ hg).2) (h.bw.2 _)⟩
theorem LXB.lift {f : FuncId} {args : Array Value} {P : Program} (X : LXB w B b room M u y l) (h : Calls P f args w fun e w' => ∃ u' : List It × Value, e = .returned (.int .i64 q) ∧ LX w' B b room M2 u' ∧ Fr (LF b u.2 u.1) w w' ∧ ∀ g, LF b u'.2 u'.1 g → LF b u.2 u.1 g ∨ w.heap.size ≤ g) :
    Calls P f args w fun e w' => ∃ u' : List It × Value, e = .returned (.int .i64 q) ∧ LXB w' B b room M2 u' y l ∧ Fr (LG b u y) w w' ∧ ∀ g, LG b u' y g → LG b u y g ∨ w.heap.size ≤ g := by
  refine h.mono ?_
  rintro e w' ⟨u', he, hX, hf, hg⟩
  refine ⟨u', he, ⟨hX, (BW.stbx y l).fr X.bw hf X.dj, fun g h1 h2 => ?_⟩, hf.mono (fun _ _ h => .inl h), fun g h => h.elim (fun h => (hg g h).imp .inl id) (fun h => .inl (.inr h))⟩
  rcases hg g h2 with h3 | h3
  · exact X.dj g h1 h3
  · have := X.bw.2 g h1; omega
theorem llose_e (w : World) (X : LX w B b room M u) (hrm : 0 < room) (i : Int) (h9 : M.length ≤ 5000) {x : Pa} (hres : Lk.take M i = (M2, x, q)) :
    Calls Try.prog 27 #[.pointer (some ⟨b, 0, none⟩), .int .i64 i] w fun e w' => ∃ u' : List It × Value, e = .returned (.int .i64 q) ∧ LX w' B b room M2 u' ∧ Fr (LF b u.2 u.1) w w' ∧ ∀ g, LF b u'.2 u'.1 g → LF b u.2 u.1 g ∨ w.heap.size ≤ g :=
  (llose_c (M2 := M2) (x := x) (q := q) w B b room u.1 u.2 X.1 hrm i (by rw [X.len]; exact h9) (by rw [X.2]; exact hres)).mono fun e w' h => h.obj
theorem lall_e (w : World) (X : LX w B b room M u) (h9 : M.length ≤ 5000) :
    Calls Try.prog 37 #[.pointer (some ⟨b, 0, none⟩)] w fun e w' => ∃ u' : List It × Value, e = .returned u'.2 ∧ (AO w' B u'.1 u'.2 ∧ u'.1.map It.ab = M) ∧ Below w.heap.size w w' ∧ ∀ g, AF u'.2 u'.1 g → w.heap.size ≤ g := by
  refine (lall_c w B b room u.1 u.2 X.1 (by rw [X.len]; exact h9)).mono ?_
  rintro e w' ⟨u', he, hA, hm, hb⟩
  exact ⟨u', he, ⟨⟨hA.ow.mono (fun g hg => Nat.le_trans X.Bw (hA.lt g (.inl hg)).1), fun x hx => ⟨(hA.pk x hx).1, (hA.pk x hx).2.mono X.Bw⟩, hA.nd, hA.nv⟩, by rw [hm, X.2]⟩, hb, fun g hg => (hA.lt g hg).1⟩
end
theorem AOM.stb (B : Nat) (L : List It) (v : Value) (M : List Pa) : Stb (AF v L) (fun w => AO w B L v ∧ L.map It.ab = M) := ⟨fun h hf hd => ⟨h.1.fr hf hd, h.2⟩, fun h hg => (h.1.lt _ hg).2⟩
theorem one_item {v : World} {B : Nat} {u : List It × Value} {al : List Pa} {x : Pa} (h : AO v B u.1 u.2 ∧ u.1.map It.ab = al) (ha : al = [x]) : ∃ y g6 c6, u.1 = [y] ∧ u.2 = .slice (some ⟨g6, 0, none⟩) 1 c6 := by
  obtain ⟨h1, h2⟩ := h
  obtain ⟨L, uv⟩ := u
  dsimp only at h1 h2 ⊢
  rw [ha] at h2
  match L, h2 with
  | [y], _ =>
    obtain ⟨g, c, e⟩ := ow_some h1.ow (by simp)
    exact ⟨y, g, c, rfl, e⟩
theorem one_cells {v : World} {B : Nat} {y : It} {g6 c6 : Nat} {al : List Pa} {x : Pa} (h : AO v B [y] (.slice (some ⟨g6, 0, none⟩) 1 c6) ∧ [y].map It.ab = al) (ha : al = [x]) :
    v.cell? ⟨g6, 0, none⟩ = some (.int .i64 x.1) ∧ v.cell? ⟨g6, 1, none⟩ = some (.slice (some ⟨y.g, 0, none⟩) 736 y.c) ∧ ∀ k, k < 736 → v.cell? ⟨y.g, k, none⟩ = some (U8 (x.2.getD k 0)) := by
  obtain ⟨h1, h2⟩ := h
  rw [ha] at h2
  simp only [List.map_cons, List.map_nil, List.cons.injEq, and_true] at h2
  subst h2
  have hs := h1.ow.sv
  have e0 := sv_itt hs (i := 0) (x := y) rfl
  have e1 := sv_itv hs (i := 0) (x := y) rfl
  have hp := h1.pk y (by simp)
  refine ⟨by simpa [It.ab] using e0, by simpa using e1, fun k hk => bs_cell0 hp.2.bs k (by rw [hp.1]; exact hk)⟩
theorem dj0 {b gz n : Nat} (h : b < gz) : ∀ g, (Value.slice (some ⟨gz, 0, none⟩) n n).ownBlock = some g → ¬ LF b (.slice none 0 0) [] g := by
  intro g hg h2
  simp only [Value.ownBlock, Option.some.injEq] at hg
  subst hg
  rcases h2 with h2 | h2 | h2
  · omega
  · simp [obk] at h2
  · simp at h2
theorem BS.tail1 {w : World} {g : Nat} {l : B8} (h : BS w (.slice (some ⟨g, 0, none⟩) 736 736) l) (hl : l.length = 736) : BS w (.slice (some ⟨g, 1, none⟩) 735 735) (l.drop 1) := by
  have h' : BS w (.slice (some ⟨g, 0, none⟩) l.length 736) l := by rw [hl]; exact h
  have := h'.tail 1 (by omega) (some ⟨g, 0 + 1, none⟩) (fun _ => rfl)
  rw [hl] at this
  exact this
section
variable {ops : Array Oper} {Q : Exit → Act → World → Prop} {i : Nat} {t : Tr} {a : Act} {o : Oper} {S : Nat → Prop} {w0 w : World} {H : List (Nat × Array Value)}
/-- bytes are made, all nought -/
theorem wpT_mkz (dst n : Nat) (x y : Operand) (M : Mm S w0 H w) (hdst : o.dst = some dst) (ho : ops[i]? = some o) (hop : o.op = .makeSlice 70 x y) (hw : Region.wanted o (yielded ops a.tmps) = true)
    (hx : a.eval x = .int .i64 n) (hy : a.eval y = .int .i64 n) (hn : n ≤ 16777216)
    (h : ∀ g w', BW w' (.slice (some ⟨g, 0, none⟩) n n) (zs n) → Mm S w0 H w' → w.heap.size ≤ g → OB w' w.heap.size (.slice (some ⟨g, 0, none⟩) n n) (zs n) → wpT Try.prog ops Q t (a.put (some dst) (.slice (some ⟨g, 0, none⟩) n n)) w') : wpT Try.prog ops Q (.op i t) a w := by
  obtain ⟨inf, hi0, hz0, hz1, hz2⟩ := info_parts info_u8
  obtain ⟨w', hr, h1, h2⟩ := run_make_full (P := Try.prog) w w.heap.size 70 5 inf (.int .u8 0) 1 Try.underlying70 hi0 hz0 hz1 .i64 .i64 n (by rw [hz2]; omega) (by unfold maxLen; omega) (Nat.le_refl _)
  refine wpT_val (v := .slice (some ⟨w.heap.size, 0, none⟩) n n) (w' := w') ho hw ?_ ?_
  · obtain ⟨dst, op, ty, pos, after, guard⟩ := o
    subst hop
    simp only [execOp, Sem.run_bind, hx, hy]
    rw [hr]; rfl
  · rw [hdst]
    have hO : OB w' w.heap.size (.slice (some ⟨w.heap.size, 0, none⟩) n n) (zs n) := by
      unfold OB
      have e : (madeCells (Value.cells (.int .u8 0)) (n * 1)).toList = (zs n : List (BitVec 8)).map U8 := by
        rw [Nat.mul_one]; exact (toList_madeCells_one _ n).trans (by simp [zs]; exact .inr rfl)
      rw [e] at h1
      simpa [zs] using h1
    exact h _ _ ⟨hO.bs, fun g hg => (hO.lt g hg).2⟩ (M.grown8 h2 (fun g hg => by cases hg)) (Nat.le_refl _) hO
end
set_option maxRecDepth 100000
attribute [local irreducible] STR RSR wpT
set_option maxHeartbeats 8000000 in
theorem alive26_c (w : World) : Calls Try.prog 22 #[] w fun e w' => e = .returned (.bool true) ∧ Below w.heap.size w w' := by
  obtain ⟨B, hB⟩ : ∃ B, B = w.heap.size := ⟨_, rfl⟩
  have HB := hid hB
  clear hB
  have HALL : Hid (∀ Z : B8, Z = zs 736 → ∃ al1 al2 al3 al4 al5 al6 : List Pa, Lk.put (4 : Int).toNat [] (1, Z) = (al1, 0) ∧ Lk.put (4 : Int).toNat al1 (2, Z) = (al2, 0) ∧ Lk.put (4 : Int).toNat al2 (3, Z.drop 1) = (al2, 2) ∧ Lk.twice (4 : Int).toNat al2 0 = (al3, 0) ∧ Lk.turn al3 2 5 9 = (al4, 0) ∧ Lk.take al4 1 = (al5, (2, Z), 0) ∧ Lk.take al5 0 = (al6, (1, Z), 0) ∧ Lk.take al6 1 = (al6, (0, []), 9) ∧
      al1.length ≤ 5000 ∧ al2.length ≤ 5000 ∧ al4.length ≤ 5000 ∧ al5.length ≤ 5000 ∧ al6.length = 1 ∧ al6 = [(1, Lk.turnB Z 5 9)] ∧ Z.length = 736 ∧ (Lk.turnB Z 5 9).getD 5 0 = 9) := by
    refine hid fun Z hZ => ?_
    have hl : Z.length = 736 := by rw [hZ]; simp [zs]
    have hl1 : (Z.drop 1).length = 735 := by rw [List.length_drop, hl]
    refine ⟨[(1, Z)], [(1, Z), (2, Z)], [(1, Z), (2, Z), (1, Z)], [(1, Z), (2, Z), (1, Lk.turnB Z 5 9)], [(1, Z), (1, Lk.turnB Z 5 9)], [(1, Lk.turnB Z 5 9)], ?_, ?_, ?_, ?_, ?_, ?_, ?_, ?_, by simp, by simp, by simp, by simp, rfl, rfl, hl, by subst hZ; decide⟩
    · simp [Lk.put, Lk.behind, hl]
    · simp [Lk.put, Lk.behind, hl]
    · unfold Lk.put; rw [if_pos (Or.inr (Or.inr (by dsimp only; rw [hl1]; decide)))]
    · simp [Lk.twice, Lk.behind]
    · simp [Lk.turn]
    · simp [Lk.take]
    · simp [Lk.take]
    · simp [Lk.take]
  have M0 := Mm.start no w
  go_enter Try.func22, Try.ntmps22
  go_upto_region 1 with fail
  refine wp_region_lin (.op 0 (.op 1 .done)) (by rfl) ?_
  refine wpT_objS (U := Nat) (fun b => .pointer (some ⟨b, 0, none⟩)) (fun b => LF b (.slice none 0 0) []) (fun b w => LX w B b 4 [] ([], .slice none 0 0)) (some 7) M0 rfl rfl rfl (by go_simp) (lnew_e _ _ 4 (by rw [HB.out]; exact M0.size) (by decide) (by decide)) (fun b => LX.stb _ _ _ _ ([], .slice none 0 0)) (fun b wn Sn Mn Kn Fn => ?_)
  refine wpT_valp 1 (v := .pointer (some ⟨b, 0, none⟩)) rfl rfl rfl (by go_simp) ?_
  first | dsimp only [wpT] | refine wpT_fin ?_
  try simp only [Act.put, List.setIfInBounds_toArray, List.set_cons_succ, List.set_cons_zero]
  go_upto_region 2 with fail
  refine wp_region_lin (.op 0 (.op 1 .done)) (by rfl) ?_
  refine wpT_mkz 8 736 _ _ Mn rfl rfl rfl rfl (by go_simp) (by go_simp) (by decide) (fun gz wz BZ M9 hz1 hz2 => ?_)
  have hzb : b < gz := by have := ((Kn _ _ Mn).1.1.lt b (.inl rfl)).2; omega
  obtain ⟨Sz, Mz, Kz⟩ := Kn.add M9 (LX.stb _ _ _ _ ([], .slice none 0 0)) (BW.stbx (.slice (some ⟨gz, 0, none⟩) 736 736) (zs 736)) BZ (fun q hq => by cases hq)
  have Fz : ∀ g, LF b (.slice none 0 0) [] g ∨ (Value.slice (some ⟨gz, 0, none⟩) 736 736).ownBlock = some g → no g ∨ w.heap.size ≤ g := fun g hg => hg.elim (Fn g) (fun h => .inr (by simp only [Value.ownBlock, Option.some.injEq] at h; have := (Kn _ _ Mn).2.1.size; omega))
  clear M9 Kn
  refine wpT_valp 2 (v := .slice (some ⟨gz, 0, none⟩) 736 736) rfl rfl rfl (by go_simp) ?_
  first | dsimp only [wpT] | refine wpT_fin ?_
  try simp only [Act.put, List.setIfInBounds_toArray, List.set_cons_succ, List.set_cons_zero]
  go_upto_region 3 with fail
  obtain ⟨Z, hZ⟩ : ∃ z, z = zs 736 := ⟨_, rfl⟩
  rw [← hZ] at Kz
  have HZ := hid hZ
  obtain ⟨al1, al2, al3, al4, al5, al6, hp1, hp2, hp3, hp4, hp5, hp6, hp7, hp8, hl1, hl2, hl4, hl5, hl61, ha6, hzl, h59⟩ := HALL.out Z hZ
  have HP1 := hid hp1
  have HP2 := hid hp2
  have HP3 := hid hp3
  have HP4 := hid hp4
  have HP5 := hid hp5
  have HP6 := hid hp6
  have HP7 := hid hp7
  have HP8 := hid hp8
  have hl6 : al6.length ≤ 5000 := by omega
  have HL61 := hid hl61
  have HA6 := hid ha6
  have HZL := hid hzl
  have H59 := hid h59
  have HY : Hid (∀ (v : World) (u : List It × Value), (AO v B u.1 u.2 ∧ u.1.map It.ab = al6) → ∃ y g6 c6, u.1 = [y] ∧ u.2 = .slice (some ⟨g6, 0, none⟩) 1 c6) := hid fun v u h => one_item h HA6.out
  have HC0 : Hid (∀ (v : World) (y : It) (g6 c6 : Nat), (AO v B [y] (.slice (some ⟨g6, 0, none⟩) 1 c6) ∧ [y].map It.ab = al6) → v.cell? ⟨g6, 0, none⟩ = some (.int .i64 1)) := hid fun v y g6 c6 h => (one_cells h HA6.out).1
  have HC1 : Hid (∀ (v : World) (y : It) (g6 c6 : Nat), (AO v B [y] (.slice (some ⟨g6, 0, none⟩) 1 c6) ∧ [y].map It.ab = al6) → v.cell? ⟨g6, 1, none⟩ = some (.slice (some ⟨y.g, 0, none⟩) 736 y.c)) := hid fun v y g6 c6 h => (one_cells h HA6.out).2.1
  have HC5 : Hid (∀ (v : World) (y : It) (g6 c6 : Nat), (AO v B [y] (.slice (some ⟨g6, 0, none⟩) 1 c6) ∧ [y].map It.ab = al6) → v.cell? ⟨y.g, 5, none⟩ = some (.int .u8 9)) := hid fun v y g6 c6 h => by
    have h1 := (one_cells h HA6.out).2.2 5 (by decide)
    rw [H59.out] at h1; exact h1
  clear hZ hp1 hp2 hp3 hp4 hp5 hp6 hp7 hp8 hl61 ha6 hzl h59
  obtain ⟨hX0, MO0, hd0⟩ := Kz _ _ Mz
  obtain ⟨S5, M5, K5⟩ := MO0.keep (LXB.stb B b 4 [] ([], .slice none 0 0) (.slice (some ⟨gz, 0, none⟩) 736 736) Z) ⟨hX0.1, hX0.2, dj0 hzb⟩ (fun q hq => hd0 q hq)
  have F5 := Fz
  clear hX0 MO0 hd0 Kz Fz
  refine wp_region_lin (.op 0 (.op 1 (.op 2 (.op 3 (.op 4 (.op 5 (.op 6 (.op 7 (.op 8 (.op 9 (.op 10 (.op 11 (.op 12 (.op 13 (.op 14 (.op 15 (.op 16 (.op 17 (.op 18 (.op 19 (.op 20 (.op 21 (.op 22 (.op 23 (.op 24 (.op 25 (.op 26 (.op 27 (.op 28 (.op 29 (.op 30 (.op 31 (.op 32 (.op 33 .done)))))))))))))))))))))))))))))))))) (by rfl) ?_
  refine wpT_valp 9 (v := .pointer (some ⟨b, 0, none⟩)) rfl rfl rfl (by go_simp) ?_
  refine wpT_valp 10 (v := .bool false) rfl rfl rfl (by go_simp) ?_
  refine wpT_valp 11 (v := .bool false) rfl rfl rfl (by go_simp) ?_
  refine wpT_valp 12 (v := .pointer (some ⟨b, 0, none⟩)) rfl rfl (by simp [Region.wanted, yielded, Act.put]) (by go_simp) ?_
  try simp only [Act.put, List.setIfInBounds_toArray, List.set_cons_succ, List.set_cons_zero]
  refine wpT_valp 13 (v := .slice (some ⟨gz, 0, none⟩) 736 736) rfl rfl (by simp [Region.wanted, yielded, Act.put]) (by go_simp) ?_
  refine wpT_valL 14 (v := .agg (ITR 1 (.slice (some ⟨gz, 0, none⟩) 736 736))) rfl rfl (by simp [Region.wanted, yielded, Act.put]) (by have q := xb_itm2 wz 1 (some ⟨gz, 0, none⟩) 736 736; go_simp) ?_
  refine wpT_obj (U := List It × Value) (fun u1 => .int .i64 0) (fun u1 => LG b u1 (.slice (some ⟨gz, 0, none⟩) 736 736)) (fun u1 w => LXB w B b 4 al1 u1 (.slice (some ⟨gz, 0, none⟩) 736 736) Z) (some 15) M5 K5 F5 rfl rfl (by simp [Region.wanted, yielded, Act.put]) (by first | (go_simp; done) | (go_simp; rfl)) (fun hX => hX.lift (lput_e _ hX.lx (by decide) 1 _ Z hX.bw.1 (by decide) HP1.out)) (fun u1 => LXB.stb _ _ _ _ _ _ _) (fun u1 w1 Sw1 Mw1 K1 F1 => ?_)
  refine wpT_valp 16 (v := .bool false) rfl rfl (by simp [Region.wanted, yielded, Act.put]) (by go_simp) ?_
  refine wpT_valp 17 (v := .bool false) rfl rfl rfl (by go_simp) ?_
  try simp only [Act.put, List.setIfInBounds_toArray, List.set_cons_succ, List.set_cons_zero]
  refine wpT_valp 18 (v := .bool false) rfl rfl rfl (by go_simp) ?_
  refine wpT_valp 19 (v := .pointer (some ⟨b, 0, none⟩)) rfl rfl (by simp [Region.wanted, yielded, Act.put]) (by go_simp) ?_
  refine wpT_valp 20 (v := .slice (some ⟨gz, 0, none⟩) 736 736) rfl rfl (by simp [Region.wanted, yielded, Act.put]) (by go_simp) ?_
  refine wpT_valL 21 (v := .agg (ITR 2 (.slice (some ⟨gz, 0, none⟩) 736 736))) rfl rfl (by simp [Region.wanted, yielded, Act.put]) (by have q := xb_itm2 w1 2 (some ⟨gz, 0, none⟩) 736 736; go_simp) ?_
  refine wpT_obj (U := List It × Value) (fun u2 => .int .i64 0) (fun u2 => LG b u2 (.slice (some ⟨gz, 0, none⟩) 736 736)) (fun u2 w => LXB w B b 4 al2 u2 (.slice (some ⟨gz, 0, none⟩) 736 736) Z) (some 22) Mw1 K1 F1 rfl rfl (by simp [Region.wanted, yielded, Act.put]) (by first | (go_simp; done) | (go_simp; rfl)) (fun hX => hX.lift (lput_e _ hX.lx (by decide) 2 _ Z hX.bw.1 hl1 HP2.out)) (fun u2 => LXB.stb _ _ _ _ _ _ _) (fun u2 w2 Sw2 Mw2 K2 F2 => ?_)
  try simp only [Act.put, List.setIfInBounds_toArray, List.set_cons_succ, List.set_cons_zero]
  refine wpT_valp 23 (v := .bool false) rfl rfl (by simp [Region.wanted, yielded, Act.put]) (by go_simp) ?_
  refine wpT_valp 24 (v := .bool false) rfl rfl rfl (by go_simp) ?_
  refine wpT_valp 25 (v := .bool false) rfl rfl rfl (by go_simp) ?_
  refine wpT_valp 26 (v := .pointer (some ⟨b, 0, none⟩)) rfl rfl (by simp [Region.wanted, yielded, Act.put]) (by go_simp) ?_
  refine wpT_valp 27 (v := .slice (some ⟨gz, 0, none⟩) 736 736) rfl rfl (by simp [Region.wanted, yielded, Act.put]) (by go_simp) ?_
  try simp only [Act.put, List.setIfInBounds_toArray, List.set_cons_succ, List.set_cons_zero]
  refine wpT_valp 28 (v := .slice (some ⟨gz, 1, none⟩) 735 735) rfl rfl (by simp [Region.wanted, yielded, Act.put]) (by go_simp) ?_
  refine wpT_valL 29 (v := .agg (ITR 3 (.slice (some ⟨gz, 1, none⟩) 735 735))) rfl rfl (by simp [Region.wanted, yielded, Act.put]) (by have q := xb_itm2 w2 3 (some ⟨gz, 1, none⟩) 735 735; go_simp) ?_
  refine wpT_obj (U := List It × Value) (fun u3 => .int .i64 2) (fun u3 => LG b u3 (.slice (some ⟨gz, 0, none⟩) 736 736)) (fun u3 w => LXB w B b 4 al2 u3 (.slice (some ⟨gz, 0, none⟩) 736 736) Z) (some 30) Mw2 K2 F2 rfl rfl (by simp [Region.wanted, yielded, Act.put]) (by first | (go_simp; done) | (go_simp; rfl)) (fun hX => hX.lift (lput_e _ hX.lx (by decide) 3 _ (Z.drop 1) (BS.tail1 hX.bw.1 HZL.out) hl2 HP3.out)) (fun u3 => LXB.stb _ _ _ _ _ _ _) (fun u3 w3 Sw3 Mw3 K3 F3 => ?_)
  refine wpT_valp 31 (v := .bool false) rfl rfl (by simp [Region.wanted, yielded, Act.put]) (by go_simp) ?_
  refine wpT_valp 32 (v := .bool false) rfl rfl rfl (by go_simp) ?_
  try simp only [Act.put, List.setIfInBounds_toArray, List.set_cons_succ, List.set_cons_zero]
  refine wpT_valp 33 (v := .bool false) rfl rfl rfl (by go_simp) ?_
  refine wpT_valp 34 (v := .pointer (some ⟨b, 0, none⟩)) rfl rfl (by simp [Region.wanted, yielded, Act.put]) (by go_simp) ?_
  refine wpT_obj (U := List It × Value) (fun u4 => .int .i64 0) (fun u4 => LG b u4 (.slice (some ⟨gz, 0, none⟩) 736 736)) (fun u4 w => LXB w B b 4 al3 u4 (.slice (some ⟨gz, 0, none⟩) 736 736) Z) (some 35) Mw3 K3 F3 rfl rfl (by simp [Region.wanted, yielded, Act.put]) (by first | (go_simp; done) | (go_simp; rfl)) (fun hX => hX.lift (ltwice_e _ hX.lx (by decide) 0 hl2 HP4.out)) (fun u4 => LXB.stb _ _ _ _ _ _ _) (fun u4 w4 Sw4 Mw4 K4 F4 => ?_)
  refine wpT_valp 36 (v := .bool false) rfl rfl (by simp [Region.wanted, yielded, Act.put]) (by go_simp) ?_
  refine wpT_valp 37 (v := .bool false) rfl rfl rfl (by go_simp) ?_
  try simp only [Act.put, List.setIfInBounds_toArray, List.set_cons_succ, List.set_cons_zero]
  refine wpT_valp 38 (v := .bool false) rfl rfl rfl (by go_simp) ?_
  refine wpT_valp 39 (v := .pointer (some ⟨b, 0, none⟩)) rfl rfl (by simp [Region.wanted, yielded, Act.put]) (by go_simp) ?_
  refine wpT_obj (U := List It × Value) (fun u5 => .int .i64 0) (fun u5 => LG b u5 (.slice (some ⟨gz, 0, none⟩) 736 736)) (fun u5 w => LXB w B b 4 al4 u5 (.slice (some ⟨gz, 0, none⟩) 736 736) Z) (some 40) Mw4 K4 F4 rfl rfl (by simp [Region.wanted, yielded, Act.put]) (by first | (go_simp; done) | (go_simp; rfl)) (fun hX => hX.lift (lturn_e _ hX.lx (by decide) 2 5 9 HP5.out)) (fun u5 => LXB.stb _ _ _ _ _ _ _) (fun u5 w5b Sw5b Mw5b K5b F5b => ?_)
  refine wpT_valp 41 (v := .bool false) rfl rfl (by simp [Region.wanted, yielded, Act.put]) (by go_simp) ?_
  refine wpT_valp 42 (v := .bool false) rfl rfl rfl (by go_simp) ?_
  first | dsimp only [wpT] | refine wpT_fin ?_
  try simp only [Act.put, List.setIfInBounds_toArray, List.set_cons_succ, List.set_cons_zero]
  go_upto_region 5 with fail
  obtain ⟨hX0, MO0, hd0⟩ := K5b _ _ Mw5b
  obtain ⟨S6, M6, K6⟩ := MO0.keep (LX.stb B b 4 al4 u5) hX0.lx (fun q hq h => hd0 q hq (.inl h))
  have F6 : ∀ g, LF b u5.2 u5.1 g → no g ∨ w.heap.size ≤ g := fun g h => F5b g (.inl h)
  clear hX0 MO0 hd0 K5 K1 K2 K3 K4 F5 F1 F2 F3 F4
  refine wp_region_lin (.op 0 (.op 1 (.op 2 (.op 3 (.op 4 (.op 5 (.op 6 (.op 7 .done)))))))) (by rfl) ?_
  refine wpT_valp 44 (v := .pointer (some ⟨b, 0, none⟩)) rfl rfl rfl (by go_simp) ?_
  refine wpT_obj (U := (List It × Value) × (Option Addr × Nat)) (fun u6 => .tuple #[.agg (ITR 2 (.slice u6.2.1 Z.length u6.2.2)), .int .i64 0]) (fun u6 => LG b u6.1 (.slice u6.2.1 Z.length u6.2.2)) (fun u6 w => LX w B b 4 al5 u6.1 ∧ BW w (.slice u6.2.1 Z.length u6.2.2) Z) (some 45) M6 K6 F6 rfl rfl rfl (by go_simp) (fun hX => ltake_e _ hX (by decide) 1 hl4 (HP6.out : Lk.take al4 1 = (al5, (2, Z), 0)) rfl) (fun u6 => LG.stb _ _ _ _ _ _ _) (fun u6 w7 Sw7 Mw7 K7 F7 => ?_)
  refine wpT_valp 43 (v := .tuple #[.agg (ITR 2 (.slice u6.2.1 Z.length u6.2.2)), .int .i64 0]) rfl rfl rfl (by go_simp) ?_
  refine wpT_valp 46 (v := .agg (ITR 2 (.slice u6.2.1 Z.length u6.2.2))) rfl rfl rfl (by go_simp) ?_
  try simp only [Act.put, List.setIfInBounds_toArray, List.set_cons_succ, List.set_cons_zero]
  refine wpT_valp 47 (v := .int .i64 0) rfl rfl rfl (by go_simp) ?_
  refine wpT_new (z := .agg (ITR 0 (.slice none 0 0))) 3 Mw7 (by kernel_rfl) (by decide) rfl rfl rfl rfl (fun b1 w2 M3 => ?_)
  try dsimp only [Value.cells] at M3
  refine wpT_st0 M3 0 (ITR 2 (.slice u6.2.1 Z.length u6.2.2)) inf_itm rfl rfl rfl rfl (by go_simp) (by go_simp) (by simp [ITR_size, STR_size, RSR_size, AC6_size]) (by simp [ITR_size, STR_size, RSR_size, AC6_size]) (by simp [go_sem]) rfl (fun w4 M5 => ?_)
  dsimp only [List.set] at M5
  refine wpT_valp 4 (v := .int .i64 0) rfl rfl rfl (by go_simp) ?_
  first | dsimp only [wpT] | refine wpT_fin ?_
  try simp only [Act.put, List.setIfInBounds_toArray, List.set_cons_succ, List.set_cons_zero]
  go_upto_region 6 with fail
  obtain ⟨hX0, MO0, hd0⟩ := K7 _ _ M5
  obtain ⟨S8, M8, K8⟩ := MO0.keep (LX.stb B b 4 al5 u6.1) hX0.1 (fun q hq h => hd0 q hq (.inl h))
  have F8 : ∀ g, LF b u6.1.2 u6.1.1 g → no g ∨ w.heap.size ≤ g := fun g h => F7 g (.inl h)
  clear hX0 MO0 hd0 K7 F7
  refine wp_region_lin (.op 0 (.op 1 (.op 2 .done))) (by rfl) ?_
  refine wpT_valp 48 (v := .pointer (some ⟨b, 0, none⟩)) rfl rfl rfl (by go_simp) ?_
  refine wpT_obj (U := List It × Value) (fun u9 => .int .i64 0) (fun u9 => LF b u9.2 u9.1) (fun u9 w => LX w B b 4 al6 u9) (some 49) M8 K8 F8 rfl rfl rfl (by first | (go_simp; done) | (go_simp; rfl)) (fun hX => llose_e _ hX (by decide) 0 hl5 HP7.out) (fun u9 => LX.stb _ _ _ _ _) (fun u9 w9 Sw9 Mw9 K9 F9 => ?_)
  refine wpT_valp 5 (v := .int .i64 0) rfl rfl rfl (by go_simp) ?_
  first | dsimp only [wpT] | refine wpT_fin ?_
  try simp only [Act.put, List.setIfInBounds_toArray, List.set_cons_succ, List.set_cons_zero]
  go_upto_region 7 with fail
  refine wp_region_lin (.op 0 (.op 1 (.op 2 .done))) (by rfl) ?_
  refine wpT_valp 50 (v := .pointer (some ⟨b, 0, none⟩)) rfl rfl rfl (by go_simp) ?_
  refine wpT_objN (U := List It × Value) (fun u10 => u10.2) (fun u10 => AF u10.2 u10.1) (fun u10 w => AO w B u10.1 u10.2 ∧ u10.1.map It.ab = al6) (some 51) Mw9 K9 F9 (LX.stb _ _ _ _ _) rfl rfl rfl (by go_simp) (fun hX => lall_e _ hX hl6) (fun u10 => AOM.stb _ _ _ _) (fun u10 w10 Sw10 Mw10 K10 F10 => ?_)
  refine wpT_valp 6 (v := u10.2) rfl rfl rfl (by go_simp) ?_
  first | dsimp only [wpT] | refine wpT_fin ?_
  try simp only [Act.put, List.setIfInBounds_toArray, List.set_cons_succ, List.set_cons_zero]
  go_upto_region 8 with fail
  obtain ⟨y, g6, c6, hy, hv6⟩ := HY.out _ _ (K10 _ _ Mw10).1.2
  obtain ⟨L6, v6⟩ := u10
  dsimp only at hy hv6
  subst hy
  subst hv6
  clear K8 F8 K9 F9 K6 F6
  refine wp_region_lin (.op 0 (.op 1 (.op 2 (.op 3 (.op 4 (.op 5 (.op 6 (.op 7 (.op 8 (.op 9 (.op 10 (.op 11 (.op 12 (.op 13 (.op 14 (.op 15 (.op 16 (.op 17 (.op 18 (.op 19 (.op 20 (.op 21 (.op 22 (.op 23 (.op 24 (.op 25 (.op 26 (.op 27 (.op 28 (.op 29 (.op 30 (.op 31 (.op 32 (.op 33 (.op 34 (.op 35 (.op 36 (.op 37 (.op 38 (.op 39 (.op 40 (.op 41 (.op 42 .done))))))))))))))))))))))))))))))))))))))))))) (by rfl) ?_
  refine wpT_valp 52 (v := .int .i64 0) rfl rfl rfl (by go_simp) ?_
  refine wpT_valp 53 (v := .bool true) rfl rfl rfl (by go_simp) ?_
  refine wpT_valp 54 (v := .bool true) rfl rfl rfl (by go_simp) ?_
  refine wpT_valp 55 (v := .pointer (some ⟨b1, 0, none⟩)) rfl rfl (by simp [Region.wanted, yielded, Act.put]) (by go_simp) ?_
  try simp only [Act.put, List.setIfInBounds_toArray, List.set_cons_succ, List.set_cons_zero]
  refine wpT_valp 56 (v := .int .i64 2) rfl rfl (by simp [Region.wanted, yielded, Act.put]) (by have c0 := it_c0 (Mw10.row (b := b1) (c := ITR 2 (.slice u6.2.1 Z.length u6.2.2)) (by simp)); go_simp) ?_
  refine wpT_valp 57 (v := .bool true) rfl rfl (by simp [Region.wanted, yielded, Act.put]) (by go_simp) ?_
  refine wpT_valp 58 (v := .bool true) rfl rfl rfl (by go_simp) ?_
  refine wpT_valp 59 (v := .bool true) rfl rfl rfl (by go_simp) ?_
  refine wpT_valp 60 (v := .int .i64 0) rfl rfl (by simp [Region.wanted, yielded, Act.put]) (by go_simp) ?_
  try simp only [Act.put, List.setIfInBounds_toArray, List.set_cons_succ, List.set_cons_zero]
  refine wpT_valp 61 (v := .bool true) rfl rfl (by simp [Region.wanted, yielded, Act.put]) (by go_simp) ?_
  refine wpT_valp 62 (v := .bool true) rfl rfl rfl (by go_simp) ?_
  refine wpT_valp 63 (v := .bool true) rfl rfl rfl (by go_simp) ?_
  refine wpT_valp 64 (v := .pointer (some ⟨b, 0, none⟩)) rfl rfl (by simp [Region.wanted, yielded, Act.put]) (by go_simp) ?_
  refine wpT_callv 65 Mw10 (v := .int .i64 1) rfl rfl (by simp [Region.wanted, yielded, Act.put]) (by go_simp) (llen_e w10 (K10 _ _ Mw10).1.1 (m := 1) HL61.out) (fun w6 M7 => ?_)
  try simp only [Act.put, List.setIfInBounds_toArray, List.set_cons_succ, List.set_cons_zero]
  refine wpT_valp 66 (v := .bool true) rfl rfl (by simp [Region.wanted, yielded, Act.put]) (by go_simp) ?_
  refine wpT_valp 67 (v := .bool true) rfl rfl rfl (by go_simp) ?_
  refine wpT_valp 68 (v := .bool true) rfl rfl rfl (by go_simp) ?_
  refine wpT_valp 69 (v := .slice (some ⟨g6, 0, none⟩) 1 c6) rfl rfl (by simp [Region.wanted, yielded, Act.put]) (by go_simp) ?_
  refine wpT_valp 70 (v := .int .i64 1) rfl rfl (by simp [Region.wanted, yielded, Act.put]) (by go_simp) ?_
  try simp only [Act.put, List.setIfInBounds_toArray, List.set_cons_succ, List.set_cons_zero]
  refine wpT_valp 71 (v := .bool true) rfl rfl (by simp [Region.wanted, yielded, Act.put]) (by go_simp) ?_
  refine wpT_valp 72 (v := .bool true) rfl rfl rfl (by go_simp) ?_
  refine wpT_valp 73 (v := .bool true) rfl rfl rfl (by go_simp) ?_
  refine wpT_valp 74 (v := .slice (some ⟨g6, 0, none⟩) 1 c6) rfl rfl (by simp [Region.wanted, yielded, Act.put]) (by go_simp) ?_
  refine wpT_valp 75 (v := .pointer (some ⟨g6, 0, none⟩)) rfl rfl (by simp [Region.wanted, yielded, Act.put]) (by go_simp) ?_
  try simp only [Act.put, List.setIfInBounds_toArray, List.set_cons_succ, List.set_cons_zero]
  refine wpT_valp 76 (v := .pointer (some ⟨g6, 0, none⟩)) rfl rfl (by simp [Region.wanted, yielded, Act.put]) (by go_simp) ?_
  refine wpT_valp 77 (v := .int .i64 1) rfl rfl (by simp [Region.wanted, yielded, Act.put]) (by have c0 := HC0.out _ _ _ _ (K10 _ _ M7).1.2; go_simp) ?_
  refine wpT_valp 78 (v := .bool true) rfl rfl (by simp [Region.wanted, yielded, Act.put]) (by go_simp) ?_
  refine wpT_valp 79 (v := .bool true) rfl rfl rfl (by go_simp) ?_
  refine wpT_valp 80 (v := .bool true) rfl rfl rfl (by go_simp) ?_
  try simp only [Act.put, List.setIfInBounds_toArray, List.set_cons_succ, List.set_cons_zero]
  refine wpT_valp 81 (v := .slice (some ⟨g6, 0, none⟩) 1 c6) rfl rfl (by simp [Region.wanted, yielded, Act.put]) (by go_simp) ?_
  refine wpT_valp 82 (v := .pointer (some ⟨g6, 0, none⟩)) rfl rfl (by simp [Region.wanted, yielded, Act.put]) (by go_simp) ?_
  refine wpT_valp 83 (v := .pointer (some ⟨g6, 1, none⟩)) rfl rfl (by simp [Region.wanted, yielded, Act.put]) (by go_simp) ?_
  refine wpT_valp 84 (v := .slice (some ⟨y.g, 0, none⟩) 736 y.c) rfl rfl (by simp [Region.wanted, yielded, Act.put]) (by have c0 := HC1.out _ _ _ _ (K10 _ _ M7).1.2; go_simp) ?_
  refine wpT_valp 85 (v := .pointer (some ⟨y.g, 5, none⟩)) rfl rfl (by simp [Region.wanted, yielded, Act.put]) (by go_simp) ?_
  try simp only [Act.put, List.setIfInBounds_toArray, List.set_cons_succ, List.set_cons_zero]
  refine wpT_valp 86 (v := .int .u8 9) rfl rfl (by simp [Region.wanted, yielded, Act.put]) (by have c0 := HC5.out _ _ _ _ (K10 _ _ M7).1.2; go_simp) ?_
  refine wpT_valp 87 (v := .bool true) rfl rfl (by simp [Region.wanted, yielded, Act.put]) (by go_simp) ?_
  refine wpT_valp 88 (v := .bool true) rfl rfl rfl (by go_simp) ?_
  refine wpT_valp 89 (v := .bool true) rfl rfl rfl (by go_simp) ?_
  refine wpT_valp 90 (v := .pointer (some ⟨b, 0, none⟩)) rfl rfl (by simp [Region.wanted, yielded, Act.put]) (by go_simp) ?_
  try simp only [Act.put, List.setIfInBounds_toArray, List.set_cons_succ, List.set_cons_zero]
  obtain ⟨hX0, MO0, hd0⟩ := K10 _ _ M7
  obtain ⟨S12, M12, K12⟩ := MO0.keep (LX.stb B b 4 al6 u9) hX0.1 (fun q hq h => hd0 q hq (.inl h))
  have F12 : ∀ g, LF b u9.2 u9.1 g → no g ∨ w.heap.size ≤ g := fun g h => F10 g (.inl h)
  clear hX0 MO0 hd0
  refine wpT_obj (U := List It × Value) (fun u => .int .i64 9) (fun u => LF b u.2 u.1) (fun u w => LX w B b 4 al6 u) (some 91) M12 K12 F12 rfl rfl (by simp [Region.wanted, yielded, Act.put]) (by go_simp) (fun hX => llose_e _ hX (by decide) 1 hl6 HP8.out) (fun u => LX.stb _ _ _ _ _) (fun u11 w11 S11 Mw11 K11 F11 => ?_)
  refine wpT_valp 92 (v := .bool true) rfl rfl (by simp [Region.wanted, yielded, Act.put]) (by go_simp) ?_
  refine wpT_valp 93 (v := .bool true) rfl rfl rfl (by go_simp) ?_
  refine wpT_valp 0 (v := .bool true) rfl rfl rfl (by go_simp) ?_
  first | dsimp only [wpT] | refine wpT_fin ?_
  try simp only [Act.put, List.setIfInBounds_toArray, List.set_cons_succ, List.set_cons_zero]
  go_wp2_with fail
  go_ret
  exact ⟨rfl, (K11 _ _ Mw11).2.1.end_⟩
end Go.Proofs.Ytojkcbhmhfjioaa
