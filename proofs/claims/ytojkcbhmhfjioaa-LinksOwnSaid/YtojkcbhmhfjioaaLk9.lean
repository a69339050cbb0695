/-
  Law 26: LinksOwn; own work.
-/
import Derived.Test.YtojkcbhmhfjioaaLk7
set_option linter.unusedSimpArgs false
set_option linter.unusedVariables false
namespace Go.Proofs.Ytojkcbhmhfjioaa
open Go.RowKit Lk
/-- links, and bytes of our own that are none of theirs -/
structure LXO (w : World) (B b : Nat) (room : Int) (M : List Pa) (u : List It × Value) (y : Value) (l : B8) : Prop where
  lx : LX w B b room M u
  ob : OB w B y l
  dj : ∀ g, y.ownBlock = some g → ¬ LF b u.2 u.1 g
section
variable {w w' : World} {B b : Nat} {room : Int} {M M2 : List Pa} {u : List It × Value} {y : Value} {l : B8} {q : Int}
theorem LXO.stb (B b : Nat) (room : Int) (M : List Pa) (u : List It × Value) (y : Value) (l : B8) : Stb (LG b u y) (fun w => LXO w B b room M u y l) :=
  ⟨fun h hf hd => ⟨⟨h.lx.1.fr hf (fun g hg => hd g (.inl hg)), h.lx.2⟩, h.ob.fr' hf (fun g hg => hd g (.inr hg)), h.dj⟩, fun h hg => hg.elim (fun hg => (h.lx.1.lt _ hg).2) (fun hg => (h.ob.at_ _ hg).2)⟩
theorem LXO.lift {f : FuncId} {args : Array Value} {P : Program} (X : LXO w B b room M u y l) (h : Calls P f args w fun e w' => ∃ u' : List It × Value, e = .returned (.int .i64 q) ∧ LX w' B b room M2 u' ∧ Fr (LF b u.2 u.1) w w' ∧ ∀ g, LF b u'.2 u'.1 g → LF b u.2 u.1 g ∨ w.heap.size ≤ g) :
    Calls P f args w fun e w' => ∃ u' : List It × Value, e = .returned (.int .i64 q) ∧ LXO w' B b room M2 u' y l ∧ Fr (LG b u y) w w' ∧ ∀ g, LG b u' y g → LG b u y g ∨ w.heap.size ≤ g := by
  refine h.mono ?_
  rintro e w' ⟨u', he, hX, hf, hg⟩
  refine ⟨u', he, ⟨hX, X.ob.fr' hf X.dj, fun g h1 h2 => ?_⟩, hf.mono (fun _ _ h => .inl h), fun g h => h.elim (fun h => (hg g h).imp .inl id) (fun h => .inl (.inr h))⟩
  rcases hg g h2 with h3 | h3
  · exact X.dj g h1 h3
  · have := (X.ob.at_ g h1).2; omega
/-- packets of one's own that are none of G -/
structure AOD (G : Nat → Prop) (w : World) (B : Nat) (M : List Pa) (a : List It × Value) : Prop where
  ao : AO w B a.1 a.2
  mp : a.1.map It.ab = M
  dj : ∀ g, AF a.2 a.1 g → ¬ G g
theorem AOD.stb (G : Nat → Prop) (B : Nat) (M : List Pa) (a : List It × Value) : Stb (AF a.2 a.1) (fun w => AOD G w B M a) := ⟨fun h hf hd => ⟨h.ao.fr hf hd, h.mp, h.dj⟩, fun h hg => (h.ao.lt _ hg).2⟩
theorem lall_d (w : World) (X : LX w B b room M u) (h9 : M.length ≤ 5000) :
    Calls Try.prog 37 #[.pointer (some ⟨b, 0, none⟩)] w fun e w' => ∃ a : List It × Value, e = .returned a.2 ∧ AOD (LF b u.2 u.1) w' B M a ∧ Below w.heap.size w w' ∧ ∀ g, AF a.2 a.1 g → w.heap.size ≤ g :=
  (lall_e w X h9).mono fun e w' ⟨a, h1, h2, h3, h4⟩ => ⟨a, h1, ⟨h2.1, h2.2, fun g h5 h6 => by have := h4 g h5; have := (X.1.lt g h6).2; omega⟩, h3, h4⟩
end
theorem lall_z (w : World) (q : Value) (hq : BadL w q) :
    Calls Try.prog 37 #[q] w fun e w' => ∃ ac : Option Addr × Nat, e = .returned (.slice ac.1 0 ac.2) ∧ True ∧ Below w.heap.size w w' :=
  (lall_b w q hq).mono fun e w' ⟨a, c, h1, h2⟩ => ⟨(a, c), h1, trivial, h2⟩
section
variable {w : World} {B : Nat} {G : Nat → Prop} {p r : Pa} {y z : It} {g c : Nat}
theorem two_item {a : List It × Value} (h : AOD G w B [p, r] a) : ∃ y z g c, a.1 = [y, z] ∧ a.2 = .slice (some ⟨g, 0, none⟩) 2 c := by
  obtain ⟨L, v⟩ := a
  have h1 := h.ao
  have h2 := h.mp
  dsimp only at h1 h2 ⊢
  match L, h2 with
  | [y, z], _ =>
    obtain ⟨g, c, e⟩ := ow_some h1.ow (by simp)
    exact ⟨y, z, g, c, rfl, e⟩
variable (h : AOD G w B [p, r] ([y, z], .slice (some ⟨g, 0, none⟩) 2 c))
include h
theorem two_v0 : w.cell? ⟨g, 1, none⟩ = some (.slice (some ⟨y.g, 0, none⟩) 736 y.c) := by
  have := sv_itv h.ao.ow.sv (i := 0) (x := y) rfl; simpa using this
theorem two_v1 : w.cell? ⟨g, 3, none⟩ = some (.slice (some ⟨z.g, 0, none⟩) 736 z.c) := by
  have := sv_itv h.ao.ow.sv (i := 1) (x := z) rfl; simpa using this
theorem two_ob : OB w B (.slice (some ⟨y.g, 0, none⟩) 736 y.c) y.l := (h.ao.pk y (by simp)).2
theorem two_len : y.l.length = 736 := (h.ao.pk y (by simp)).1
theorem two_b0 (k : Nat) (hk : k < 736) : w.cell? ⟨y.g, k, none⟩ = some (U8 (p.2.getD k 0)) := by
  have hp := h.ao.pk y (by simp)
  have hm := h.mp
  simp only [List.map_cons, List.map_nil, List.cons.injEq, and_true] at hm
  rw [← hm.1]
  exact bs_cell0 hp.2.bs k (by rw [hp.1]; exact hk)
theorem two_b1 (k : Nat) (hk : k < 736) : w.cell? ⟨z.g, k, none⟩ = some (U8 (r.2.getD k 0)) := by
  have hp := h.ao.pk z (by simp)
  have hm := h.mp
  simp only [List.map_cons, List.map_nil, List.cons.injEq, and_true] at hm
  rw [← hm.2]
  exact bs_cell0 hp.2.bs k (by rw [hp.1]; exact hk)
end
theorem getD_zs (k : Nat) : (zs 736 : B8).getD k 0 = 0 := by
  unfold zs
  rw [List.getD_eq_getElem?_getD, List.getElem?_replicate]
  split <;> rfl
theorem put1 {Z : B8} (h : Z.length = 736) : Lk.put (3 : Int).toNat [] (1, Z) = ([(1, Z)], 0) := by simp [Lk.put, Lk.behind, h]
theorem twice1 {Z : B8} : Lk.twice (3 : Int).toNat [(1, Z)] 0 = ([(1, Z), (1, Z)], 0) := by simp [Lk.twice, Lk.behind]
theorem turn1 {Z : B8} {b : BitVec 8} : Lk.turn [(1, Z), (1, Z)] 1 2 b = ([(1, Z), (1, Lk.turnB Z 2 b)], 0) := by simp [Lk.turn]
theorem turn_b {Z : B8} {b : BitVec 8} (h : Z.length = 736) (h0 : ∀ k, Z.getD k 0 = 0) : (((1 : Int), Lk.turnB Z 2 b) : Pa).2.getD 2 0 = b := by
  show (Lk.turnB Z 2 b).getD 2 0 = b
  unfold Lk.turnB
  rw [h0, List.getD_eq_getElem?_getD, List.getElem?_set, if_pos rfl, if_pos (by omega)]
  simp
theorem wpT_lptr2 {S : Nat → Prop} {w0 w : World} {H : List (Nat × Array Value)} {ops : Array Oper} {Q : Exit → Act → World → Prop} {i : Nat} {t : Tr} {a : Act} {o : Oper} (dst : Nat) (x : Operand) (M : Mm S w0 H w) (b : Nat) (hdst : o.dst = some dst) (ho : ops[i]? = some o) (hop : o.op = .buildSlice 96 2 #[(0, .const (.pointer none)), (1, x)])
    (hx : a.eval x = .pointer (some ⟨b, 0, none⟩)) (hw : Region.wanted o (yielded ops a.tmps) = true)
    (h : ∀ g w', Mm S w0 ((g, #[.pointer none, .pointer (some ⟨b, 0, none⟩)]) :: H) w' → wpT Try.prog ops Q t (a.put (some dst) (.slice (some ⟨g, 0, none⟩) 2 2)) w') : wpT Try.prog ops Q (.op i t) a w := by
  have hi : (Try.prog.info? 63).map (fun i => (i.zero, i.size, i.bytes)) = some (some (.pointer none), 1, 8) := by kernel_rfl
  obtain ⟨inf, hi0, hz0, hz1, hz2⟩ := info_parts hi
  have e : (Array.map (fun (x : Nat × Operand) => (x.1, a.eval x.2)) #[(0, .const (.pointer none)), (1, x)]).toList = [(0, .pointer none), (1, .pointer (some ⟨b, 0, none⟩))] := by simp [hx]; rfl
  refine wpT_bsl dst M _ inf _ Try.underlying96 hi0 hz0 (by rw [hz1]; decide) (by rw [hz1]; decide) (by decide) hdst ho hop ?_ hw (fun b w' M' _ _ => h b w' M')
  rw [hz1, e]
  have := fill_cat (fun i => some (i * 1, 1)) [(0, Value.pointer none), (1, Value.pointer (some ⟨b, 0, none⟩))] #[] ((Array.range (2 * 1)).map ((Value.pointer none).cells[· % (Value.pointer none).cells.size]!)) (by simp [Cont, Value.cells]) (by simp [catP, Value.cells])
  rw [Array.empty_append, Array.empty_append] at this
  rw [this]; simp [catP, Value.cells]
theorem lpcell0 {w : World} {g : Nat} {x y : Value} (h : w.rowOf g = #[x, y]) : w.cell? ⟨g, 0, none⟩ = some x := by rw [cell_rowOf, h]; rfl
theorem lpcell1 {w : World} {g : Nat} {x y : Value} (h : w.rowOf g = #[x, y]) : w.cell? ⟨g, 1, none⟩ = some y := by rw [cell_rowOf, h]; rfl
set_option maxRecDepth 100000
attribute [local irreducible] STR RSR AC6 wpT
set_option maxHeartbeats 40000000 in
theorem LinksOwn_w (w : World) (x : A6) :
    Calls Try.prog 8 #[.agg (AC6 x)] w fun e w' => e = .returned (.bool true) ∧ Below w.heap.size w w' := by
  obtain ⟨B, hB⟩ : ∃ B, B = w.heap.size := ⟨_, rfl⟩
  have HB := hid hB
  clear hB
  have M0 := Mm.start no w
  go_enter Try.func8, Try.ntmps8
  have M2 := (M0.alloc (AC6 x) 69 (by decide))
  try simp only [World.size_alloc] at M2
  go_upto_region 1 with fail
  obtain ⟨w1, hw1⟩ : ∃ w1, w1 = (w.alloc (.cells (AC6 x) 69)) := ⟨_, rfl⟩
  rw [← hw1] at M2 ⊢
  clear hw1
  refine wp_region_lin (.op 0 (.op 1 .done)) (by rfl) ?_
  refine wpT_callv 10 M2 (v := .bool true) rfl rfl rfl (by go_simp) (alive26_c w1) (fun w3 M4 => ?_)
  refine wpT_valp 11 (v := .bool false) rfl rfl rfl (by go_simp) ?_
  first | refine wpT_fin ?_ | dsimp only [wpT]
  try simp only [Act.put, List.setIfInBounds_toArray, List.set_cons_succ, List.set_cons_zero]
  go_upto_region 3 with fail
  refine wp_region_lin (.op 0 (.op 1 (.op 2 (.op 3 (.op 4 .done))))) (by rfl) ?_
  refine wpT_valL 12 (v := .agg (STR 0 (.slice none 0 0))) rfl rfl rfl (by have q := xb_lnk0 w3; go_simp) ?_
  refine wpT_sbx' (c := STR 0 (.slice none 0 0)) (T := 95) 13 M4 (by decide) rfl rfl rfl (by go_simp) (fun zb wz0 hzb0 Mz0 => ?_)
  refine wpT_lptr2 14 _ Mz0 zb rfl rfl rfl (by go_simp) rfl (fun pb wp Mp => ?_)
  refine wpT_valp 15 (v := .int .i64 2) rfl rfl rfl (by go_simp) ?_
  try simp only [Act.put, List.setIfInBounds_toArray, List.set_cons_succ, List.set_cons_zero]
  refine wpT_valp 16 (v := .int .i64 0) rfl rfl rfl (by go_simp) ?_
  first | refine wpT_fin ?_ | dsimp only [wpT]
  try simp only [Act.put, List.setIfInBounds_toArray, List.set_cons_succ, List.set_cons_zero]
  go_wp2_with fail
  go_loopw [16] (fun t wr => (t = .int .i64 0 ∧ Mm no w [(pb, #[.pointer none, .pointer (some ⟨zb, 0, none⟩)]), (zb, STR 0 (.slice none 0 0)), (w.heap.size, AC6 x)] wr) ∨ (t = .int .i64 1 ∧ Mm no w [(pb, #[.pointer none, .pointer (some ⟨zb, 0, none⟩)]), (zb, STR 0 (.slice none 0 0)), (w.heap.size, AC6 x)] wr) ∨ (t = .int .i64 2 ∧ Mm no w [(pb, #[.pointer none, .pointer (some ⟨zb, 0, none⟩)]), (zb, STR 0 (.slice none 0 0)), (w.heap.size, AC6 x)] wr)) (fun t _ => 2 - (intOf t).toNat)
  case atStart => exact .inl ⟨rfl, Mp⟩
  case round =>
    clear Mp
    rcases hrel with ⟨rfl, M⟩ | ⟨rfl, M⟩ | ⟨rfl, M⟩
    ·
      go_upto_region 4 with fail
      refine wp_region_lin (.op 0 .done) (by rfl) ?_
      refine wpT_valp 17 (v := .bool true) rfl rfl rfl (by go_simp) ?_
      first | refine wpT_fin ?_ | dsimp only [wpT]
      try simp only [Act.put, List.setIfInBounds_toArray, List.set_cons_succ, List.set_cons_zero]
      go_upto_region 5 with fail
      refine wp_region_lin (.op 0 (.op 1 (.op 2 .done))) (by rfl) ?_
      refine wpT_valp 18 (v := .pointer (some ⟨pb, 0, none⟩)) rfl rfl rfl (by go_simp) ?_
      refine wpT_valp 19 (v := .pointer none) rfl rfl rfl (by have c0 := lpcell0 (M.row (b := pb) (c := #[.pointer none, .pointer (some ⟨zb, 0, none⟩)]) (by simp)); go_simp) ?_
      refine wpT_valp 4 (v := .pointer none) rfl rfl rfl (by go_simp) ?_
      first | refine wpT_fin ?_ | dsimp only [wpT]
      try simp only [Act.put, List.setIfInBounds_toArray, List.set_cons_succ, List.set_cons_zero]
      go_upto_region 6 with fail
      refine wp_region_lin (.op 0 (.op 1 (.op 2 (.op 3 (.op 4 (.op 5 (.op 6 (.op 7 (.op 8 (.op 9 .done)))))))))) (by rfl) ?_
      refine wpT_valp 21 (v := .pointer none) rfl rfl rfl (by go_simp) ?_
      refine wpT_valp 22 (v := .pointer (some ⟨w.heap.size, 2, none⟩)) rfl rfl rfl (by go_simp) ?_
      refine wpT_valp 23 (v := .int .i64 x.at_) rfl rfl rfl (by have c0 := a6_c2 (M.row (b := w.heap.size) (c := AC6 x) (by simp)); go_simp) ?_
      refine wpT_callv 24 M (v := .tuple #[.agg (ITR 0 (.slice none 0 0)), .int .i64 1]) rfl rfl rfl (by go_simp) (ltake_b wr _ (.inl rfl) x.at_) (fun w1 M2 => ?_)
      try simp only [Act.put, List.setIfInBounds_toArray, List.set_cons_succ, List.set_cons_zero]
      refine wpT_valp 20 (v := .tuple #[.agg (ITR 0 (.slice none 0 0)), .int .i64 1]) rfl rfl rfl (by go_simp) ?_
      refine wpT_valp 25 (v := .agg (ITR 0 (.slice none 0 0))) rfl rfl rfl (by go_simp) ?_
      refine wpT_valp 26 (v := .int .i64 1) rfl rfl rfl (by go_simp) ?_
      refine wpT_new (z := .agg (ITR 0 (.slice none 0 0))) 5 M2 (by kernel_rfl) (by decide) rfl rfl rfl rfl (fun b3 w4 M5 => ?_)
      try dsimp only [Value.cells] at M5
      refine wpT_st0 M5 0 (ITR 0 (.slice none 0 0)) inf_itm rfl rfl rfl rfl (by go_simp) (by go_simp) (by simp [ITR_size, STR_size, RSR_size, AC6_size]) (by simp [ITR_size, STR_size, RSR_size, AC6_size]) (by simp [go_sem]) rfl (fun w6 M7 => ?_)
      dsimp only [List.set] at M7
      try simp only [Act.put, List.setIfInBounds_toArray, List.set_cons_succ, List.set_cons_zero]
      refine wpT_valp 6 (v := .int .i64 1) rfl rfl rfl (by go_simp) ?_
      first | refine wpT_fin ?_ | dsimp only [wpT]
      try simp only [Act.put, List.setIfInBounds_toArray, List.set_cons_succ, List.set_cons_zero]
      go_upto_region 7 with fail
      refine wp_region_lin (.op 0 (.op 1 (.op 2 (.op 3 (.op 4 (.op 5 (.op 6 (.op 7 (.op 8 (.op 9 (.op 10 (.op 11 (.op 12 (.op 13 (.op 14 (.op 15 (.op 16 (.op 17 (.op 18 (.op 19 (.op 20 (.op 21 (.op 22 (.op 23 (.op 24 (.op 25 (.op 26 (.op 27 (.op 28 (.op 29 (.op 30 (.op 31 (.op 32 (.op 33 (.op 34 (.op 35 (.op 36 (.op 37 (.op 38 (.op 39 (.op 40 (.op 41 (.op 42 (.op 43 (.op 44 (.op 45 (.op 46 (.op 47 (.op 48 (.op 49 (.op 50 (.op 51 (.op 52 (.op 53 (.op 54 .done))))))))))))))))))))))))))))))))))))))))))))))))))))))) (by rfl) ?_
      refine wpT_valp 27 (v := .pointer none) rfl rfl rfl (by go_simp) ?_
      refine wpT_valL 28 (v := .agg (ITR 0 (.slice none 0 0))) rfl rfl rfl (by have q := xb_itm0 w6; go_simp) ?_
      refine wpT_callv 29 M7 (v := .int .i64 1) rfl rfl rfl (by go_simp) (lput_b w6 _ (.inl rfl) 0 none 0 0) (fun w8 M9 => ?_)
      refine wpT_valp 30 (v := .bool false) rfl rfl rfl (by go_simp) ?_
      try simp only [Act.put, List.setIfInBounds_toArray, List.set_cons_succ, List.set_cons_zero]
      refine wpT_valp 31 (v := .bool false) rfl rfl rfl (by go_simp) ?_
      refine wpT_valp 32 (v := .pointer (some ⟨b3, 0, none⟩)) rfl rfl (by simp [Region.wanted, yielded, Act.put]) (by go_simp) ?_
      refine wpT_valp 33 (v := .int .i64 0) rfl rfl (by simp [Region.wanted, yielded, Act.put]) (by have c0 := it_c0 (M9.row (b := b3) (c := ITR 0 (.slice none 0 0)) (by simp)); go_simp) ?_
      refine wpT_valp 34 (v := .bool false) rfl rfl (by simp [Region.wanted, yielded, Act.put]) (by go_simp) ?_
      refine wpT_valp 35 (v := .bool false) rfl rfl rfl (by go_simp) ?_
      try simp only [Act.put, List.setIfInBounds_toArray, List.set_cons_succ, List.set_cons_zero]
      refine wpT_valp 36 (v := .bool false) rfl rfl rfl (by go_simp) ?_
      refine wpT_valp 37 (v := .pointer (some ⟨b3, 1, none⟩)) rfl rfl (by simp [Region.wanted, yielded, Act.put]) (by go_simp) ?_
      refine wpT_valp 38 (v := .slice none 0 0) rfl rfl (by simp [Region.wanted, yielded, Act.put]) (by have c0 := it_c1 (M9.row (b := b3) (c := ITR 0 (.slice none 0 0)) (by simp)); go_simp) ?_
      refine wpT_valp 39 (v := .int .i64 0) rfl rfl (by simp [Region.wanted, yielded, Act.put]) (by go_simp) ?_
      refine wpT_valp 40 (v := .bool false) rfl rfl (by simp [Region.wanted, yielded, Act.put]) (by go_simp) ?_
      try simp only [Act.put, List.setIfInBounds_toArray, List.set_cons_succ, List.set_cons_zero]
      refine wpT_valp 41 (v := .bool false) rfl rfl rfl (by go_simp) ?_
      refine wpT_valp 42 (v := .bool false) rfl rfl rfl (by go_simp) ?_
      refine wpT_valp 43 (v := .int .i64 1) rfl rfl (by simp [Region.wanted, yielded, Act.put]) (by go_simp) ?_
      refine wpT_valp 44 (v := .bool false) rfl rfl (by simp [Region.wanted, yielded, Act.put]) (by go_simp) ?_
      refine wpT_valp 45 (v := .bool false) rfl rfl rfl (by go_simp) ?_
      try simp only [Act.put, List.setIfInBounds_toArray, List.set_cons_succ, List.set_cons_zero]
      refine wpT_valp 46 (v := .bool false) rfl rfl rfl (by go_simp) ?_
      refine wpT_valp 47 (v := .pointer none) rfl rfl (by simp [Region.wanted, yielded, Act.put]) (by go_simp) ?_
      refine wpT_valp 48 (v := .pointer (some ⟨w.heap.size, 2, none⟩)) rfl rfl (by simp [Region.wanted, yielded, Act.put]) (by go_simp) ?_
      refine wpT_valp 49 (v := .int .i64 x.at_) rfl rfl (by simp [Region.wanted, yielded, Act.put]) (by have c0 := a6_c2 (M9.row (b := w.heap.size) (c := AC6 x) (by simp)); go_simp) ?_
      refine wpT_callv 50 M9 (v := .int .i64 1) rfl rfl (by simp [Region.wanted, yielded, Act.put]) (by go_simp) (llose_b w8 _ (.inl rfl) x.at_) (fun w10 M11 => ?_)
      try simp only [Act.put, List.setIfInBounds_toArray, List.set_cons_succ, List.set_cons_zero]
      refine wpT_valp 51 (v := .bool false) rfl rfl (by simp [Region.wanted, yielded, Act.put]) (by go_simp) ?_
      refine wpT_valp 52 (v := .bool false) rfl rfl rfl (by go_simp) ?_
      refine wpT_valp 53 (v := .bool false) rfl rfl rfl (by go_simp) ?_
      refine wpT_valp 54 (v := .pointer none) rfl rfl (by simp [Region.wanted, yielded, Act.put]) (by go_simp) ?_
      refine wpT_valp 55 (v := .pointer (some ⟨w.heap.size, 2, none⟩)) rfl rfl (by simp [Region.wanted, yielded, Act.put]) (by go_simp) ?_
      try simp only [Act.put, List.setIfInBounds_toArray, List.set_cons_succ, List.set_cons_zero]
      refine wpT_valp 56 (v := .int .i64 x.at_) rfl rfl (by simp [Region.wanted, yielded, Act.put]) (by have c0 := a6_c2 (M11.row (b := w.heap.size) (c := AC6 x) (by simp)); go_simp) ?_
      refine wpT_callv 57 M11 (v := .int .i64 1) rfl rfl (by simp [Region.wanted, yielded, Act.put]) (by go_simp) (ltwice_b w10 _ (.inl rfl) x.at_) (fun w12 M13 => ?_)
      refine wpT_valp 58 (v := .bool false) rfl rfl (by simp [Region.wanted, yielded, Act.put]) (by go_simp) ?_
      refine wpT_valp 59 (v := .bool false) rfl rfl rfl (by go_simp) ?_
      refine wpT_valp 60 (v := .bool false) rfl rfl rfl (by go_simp) ?_
      try simp only [Act.put, List.setIfInBounds_toArray, List.set_cons_succ, List.set_cons_zero]
      refine wpT_valp 61 (v := .pointer none) rfl rfl (by simp [Region.wanted, yielded, Act.put]) (by go_simp) ?_
      refine wpT_valp 62 (v := .pointer (some ⟨w.heap.size, 2, none⟩)) rfl rfl (by simp [Region.wanted, yielded, Act.put]) (by go_simp) ?_
      refine wpT_valp 63 (v := .int .i64 x.at_) rfl rfl (by simp [Region.wanted, yielded, Act.put]) (by have c0 := a6_c2 (M13.row (b := w.heap.size) (c := AC6 x) (by simp)); go_simp) ?_
      refine wpT_valp 64 (v := .pointer (some ⟨w.heap.size, 4, none⟩)) rfl rfl (by simp [Region.wanted, yielded, Act.put]) (by go_simp) ?_
      refine wpT_valp 65 (v := .int .i64 x.byt) rfl rfl (by simp [Region.wanted, yielded, Act.put]) (by have c0 := a6_c4 (M13.row (b := w.heap.size) (c := AC6 x) (by simp)); go_simp) ?_
      try simp only [Act.put, List.setIfInBounds_toArray, List.set_cons_succ, List.set_cons_zero]
      refine wpT_valp 66 (v := .pointer (some ⟨w.heap.size, 1, none⟩)) rfl rfl (by simp [Region.wanted, yielded, Act.put]) (by go_simp) ?_
      refine wpT_valp 67 (v := U8 x.by_) rfl rfl (by simp [Region.wanted, yielded, Act.put]) (by have c0 := a6_c1 (M13.row (b := w.heap.size) (c := AC6 x) (by simp)); go_simp) ?_
      refine wpT_callv 68 M13 (v := .int .i64 1) rfl rfl (by simp [Region.wanted, yielded, Act.put]) (by go_simp) (lturn_b w12 _ (.inl rfl) x.at_ x.byt (U8 x.by_)) (fun w14 M15 => ?_)
      refine wpT_valp 69 (v := .bool false) rfl rfl (by simp [Region.wanted, yielded, Act.put]) (by go_simp) ?_
      refine wpT_valp 70 (v := .bool false) rfl rfl rfl (by go_simp) ?_
      try simp only [Act.put, List.setIfInBounds_toArray, List.set_cons_succ, List.set_cons_zero]
      refine wpT_valp 71 (v := .bool false) rfl rfl rfl (by go_simp) ?_
      refine wpT_valp 72 (v := .pointer none) rfl rfl (by simp [Region.wanted, yielded, Act.put]) (by go_simp) ?_
      refine wpT_newx (U := Option Addr × Nat) (fun ac => .slice ac.1 0 ac.2) (fun _ _ => True) 73 M15 rfl rfl (by simp [Region.wanted, yielded, Act.put]) (by go_simp) (lall_z w14 _ (.inl rfl)) (fun ac wal _ _ Mal => ?_)
      refine wpT_valp 74 (v := .int .i64 0) rfl rfl (by simp [Region.wanted, yielded, Act.put]) (by go_simp) ?_
      refine wpT_valp 75 (v := .bool false) rfl rfl (by simp [Region.wanted, yielded, Act.put]) (by go_simp) ?_
      try simp only [Act.put, List.setIfInBounds_toArray, List.set_cons_succ, List.set_cons_zero]
      refine wpT_valp 76 (v := .bool false) rfl rfl rfl (by go_simp) ?_
      refine wpT_valp 77 (v := .bool false) rfl rfl rfl (by go_simp) ?_
      refine wpT_valp 78 (v := .pointer none) rfl rfl (by simp [Region.wanted, yielded, Act.put]) (by go_simp) ?_
      refine wpT_callv 79 Mal (v := .int .i64 0) rfl rfl (by simp [Region.wanted, yielded, Act.put]) (by go_simp) (llen_b wal _ (.inl rfl)) (fun w16 M17 => ?_)
      refine wpT_valp 80 (v := .bool false) rfl rfl (by simp [Region.wanted, yielded, Act.put]) (by go_simp) ?_
      try simp only [Act.put, List.setIfInBounds_toArray, List.set_cons_succ, List.set_cons_zero]
      refine wpT_valp 81 (v := .bool false) rfl rfl rfl (by go_simp) ?_
      first | refine wpT_fin ?_ | dsimp only [wpT]
      try simp only [Act.put, List.setIfInBounds_toArray, List.set_cons_succ, List.set_cons_zero]
      go_upto_region 9 with fail
      refine wp_region_lin (.op 0 (.op 1 .done)) (by rfl) ?_
      refine wpT_valp 82 (v := .int .i64 1) rfl rfl rfl (by have h : IntKind.i64.wrap 1 = 1 := i64w (by decide) (by decide); go_simp) ?_
      refine wpT_valp 16 (v := .int .i64 1) rfl rfl rfl (by go_simp) ?_
      first | refine wpT_fin ?_ | dsimp only [wpT]
      try simp only [Act.put, List.setIfInBounds_toArray, List.set_cons_succ, List.set_cons_zero]
      go_wp2_with fail
      go_roundw
      case rel => exact .inr (.inl ⟨rfl, M17.sub (.cons _ (.cons_cons _ (.cons_cons _ (.cons_cons _ .slnil))))⟩)
      case measure => simp only [intOf]; omega
    ·
      go_upto_region 4 with fail
      refine wp_region_lin (.op 0 .done) (by rfl) ?_
      refine wpT_valp 17 (v := .bool true) rfl rfl rfl (by go_simp) ?_
      first | refine wpT_fin ?_ | dsimp only [wpT]
      try simp only [Act.put, List.setIfInBounds_toArray, List.set_cons_succ, List.set_cons_zero]
      go_upto_region 5 with fail
      refine wp_region_lin (.op 0 (.op 1 (.op 2 .done))) (by rfl) ?_
      refine wpT_valp 18 (v := .pointer (some ⟨pb, 1, none⟩)) rfl rfl rfl (by go_simp) ?_
      refine wpT_valp 19 (v := .pointer (some ⟨zb, 0, none⟩)) rfl rfl rfl (by have c0 := lpcell1 (M.row (b := pb) (c := #[.pointer none, .pointer (some ⟨zb, 0, none⟩)]) (by simp)); go_simp) ?_
      refine wpT_valp 4 (v := .pointer (some ⟨zb, 0, none⟩)) rfl rfl rfl (by go_simp) ?_
      first | refine wpT_fin ?_ | dsimp only [wpT]
      try simp only [Act.put, List.setIfInBounds_toArray, List.set_cons_succ, List.set_cons_zero]
      go_upto_region 6 with fail
      refine wp_region_lin (.op 0 (.op 1 (.op 2 (.op 3 (.op 4 (.op 5 (.op 6 (.op 7 (.op 8 (.op 9 .done)))))))))) (by rfl) ?_
      refine wpT_valp 21 (v := .pointer (some ⟨zb, 0, none⟩)) rfl rfl rfl (by go_simp) ?_
      refine wpT_valp 22 (v := .pointer (some ⟨w.heap.size, 2, none⟩)) rfl rfl rfl (by go_simp) ?_
      refine wpT_valp 23 (v := .int .i64 x.at_) rfl rfl rfl (by have c0 := a6_c2 (M.row (b := w.heap.size) (c := AC6 x) (by simp)); go_simp) ?_
      refine wpT_callv 24 M (v := .tuple #[.agg (ITR 0 (.slice none 0 0)), .int .i64 1]) rfl rfl rfl (by go_simp) (ltake_b wr _ (.inr ⟨zb, rfl, M.row (b := zb) (c := STR 0 (.slice none 0 0)) (by simp), M.lt (b := zb) (c := STR 0 (.slice none 0 0)) (by simp)⟩) x.at_) (fun w1 M2 => ?_)
      try simp only [Act.put, List.setIfInBounds_toArray, List.set_cons_succ, List.set_cons_zero]
      refine wpT_valp 20 (v := .tuple #[.agg (ITR 0 (.slice none 0 0)), .int .i64 1]) rfl rfl rfl (by go_simp) ?_
      refine wpT_valp 25 (v := .agg (ITR 0 (.slice none 0 0))) rfl rfl rfl (by go_simp) ?_
      refine wpT_valp 26 (v := .int .i64 1) rfl rfl rfl (by go_simp) ?_
      refine wpT_new (z := .agg (ITR 0 (.slice none 0 0))) 5 M2 (by kernel_rfl) (by decide) rfl rfl rfl rfl (fun b3 w4 M5 => ?_)
      try dsimp only [Value.cells] at M5
      refine wpT_st0 M5 0 (ITR 0 (.slice none 0 0)) inf_itm rfl rfl rfl rfl (by go_simp) (by go_simp) (by simp [ITR_size, STR_size, RSR_size, AC6_size]) (by simp [ITR_size, STR_size, RSR_size, AC6_size]) (by simp [go_sem]) rfl (fun w6 M7 => ?_)
      dsimp only [List.set] at M7
      try simp only [Act.put, List.setIfInBounds_toArray, List.set_cons_succ, List.set_cons_zero]
      refine wpT_valp 6 (v := .int .i64 1) rfl rfl rfl (by go_simp) ?_
      first | refine wpT_fin ?_ | dsimp only [wpT]
      try simp only [Act.put, List.setIfInBounds_toArray, List.set_cons_succ, List.set_cons_zero]
      go_upto_region 7 with fail
      refine wp_region_lin (.op 0 (.op 1 (.op 2 (.op 3 (.op 4 (.op 5 (.op 6 (.op 7 (.op 8 (.op 9 (.op 10 (.op 11 (.op 12 (.op 13 (.op 14 (.op 15 (.op 16 (.op 17 (.op 18 (.op 19 (.op 20 (.op 21 (.op 22 (.op 23 (.op 24 (.op 25 (.op 26 (.op 27 (.op 28 (.op 29 (.op 30 (.op 31 (.op 32 (.op 33 (.op 34 (.op 35 (.op 36 (.op 37 (.op 38 (.op 39 (.op 40 (.op 41 (.op 42 (.op 43 (.op 44 (.op 45 (.op 46 (.op 47 (.op 48 (.op 49 (.op 50 (.op 51 (.op 52 (.op 53 (.op 54 .done))))))))))))))))))))))))))))))))))))))))))))))))))))))) (by rfl) ?_
      refine wpT_valp 27 (v := .pointer (some ⟨zb, 0, none⟩)) rfl rfl rfl (by go_simp) ?_
      refine wpT_valL 28 (v := .agg (ITR 0 (.slice none 0 0))) rfl rfl rfl (by have q := xb_itm0 w6; go_simp) ?_
      refine wpT_callv 29 M7 (v := .int .i64 1) rfl rfl rfl (by go_simp) (lput_b w6 _ (.inr ⟨zb, rfl, M7.row (b := zb) (c := STR 0 (.slice none 0 0)) (by simp), M7.lt (b := zb) (c := STR 0 (.slice none 0 0)) (by simp)⟩) 0 none 0 0) (fun w8 M9 => ?_)
      refine wpT_valp 30 (v := .bool false) rfl rfl rfl (by go_simp) ?_
      try simp only [Act.put, List.setIfInBounds_toArray, List.set_cons_succ, List.set_cons_zero]
      refine wpT_valp 31 (v := .bool false) rfl rfl rfl (by go_simp) ?_
      refine wpT_valp 32 (v := .pointer (some ⟨b3, 0, none⟩)) rfl rfl (by simp [Region.wanted, yielded, Act.put]) (by go_simp) ?_
      refine wpT_valp 33 (v := .int .i64 0) rfl rfl (by simp [Region.wanted, yielded, Act.put]) (by have c0 := it_c0 (M9.row (b := b3) (c := ITR 0 (.slice none 0 0)) (by simp)); go_simp) ?_
      refine wpT_valp 34 (v := .bool false) rfl rfl (by simp [Region.wanted, yielded, Act.put]) (by go_simp) ?_
      refine wpT_valp 35 (v := .bool false) rfl rfl rfl (by go_simp) ?_
      try simp only [Act.put, List.setIfInBounds_toArray, List.set_cons_succ, List.set_cons_zero]
      refine wpT_valp 36 (v := .bool false) rfl rfl rfl (by go_simp) ?_
      refine wpT_valp 37 (v := .pointer (some ⟨b3, 1, none⟩)) rfl rfl (by simp [Region.wanted, yielded, Act.put]) (by go_simp) ?_
      refine wpT_valp 38 (v := .slice none 0 0) rfl rfl (by simp [Region.wanted, yielded, Act.put]) (by have c0 := it_c1 (M9.row (b := b3) (c := ITR 0 (.slice none 0 0)) (by simp)); go_simp) ?_
      refine wpT_valp 39 (v := .int .i64 0) rfl rfl (by simp [Region.wanted, yielded, Act.put]) (by go_simp) ?_
      refine wpT_valp 40 (v := .bool false) rfl rfl (by simp [Region.wanted, yielded, Act.put]) (by go_simp) ?_
      try simp only [Act.put, List.setIfInBounds_toArray, List.set_cons_succ, List.set_cons_zero]
      refine wpT_valp 41 (v := .bool false) rfl rfl rfl (by go_simp) ?_
      refine wpT_valp 42 (v := .bool false) rfl rfl rfl (by go_simp) ?_
      refine wpT_valp 43 (v := .int .i64 1) rfl rfl (by simp [Region.wanted, yielded, Act.put]) (by go_simp) ?_
      refine wpT_valp 44 (v := .bool false) rfl rfl (by simp [Region.wanted, yielded, Act.put]) (by go_simp) ?_
      refine wpT_valp 45 (v := .bool false) rfl rfl rfl (by go_simp) ?_
      try simp only [Act.put, List.setIfInBounds_toArray, List.set_cons_succ, List.set_cons_zero]
      refine wpT_valp 46 (v := .bool false) rfl rfl rfl (by go_simp) ?_
      refine wpT_valp 47 (v := .pointer (some ⟨zb, 0, none⟩)) rfl rfl (by simp [Region.wanted, yielded, Act.put]) (by go_simp) ?_
      refine wpT_valp 48 (v := .pointer (some ⟨w.heap.size, 2, none⟩)) rfl rfl (by simp [Region.wanted, yielded, Act.put]) (by go_simp) ?_
      refine wpT_valp 49 (v := .int .i64 x.at_) rfl rfl (by simp [Region.wanted, yielded, Act.put]) (by have c0 := a6_c2 (M9.row (b := w.heap.size) (c := AC6 x) (by simp)); go_simp) ?_
      refine wpT_callv 50 M9 (v := .int .i64 1) rfl rfl (by simp [Region.wanted, yielded, Act.put]) (by go_simp) (llose_b w8 _ (.inr ⟨zb, rfl, M9.row (b := zb) (c := STR 0 (.slice none 0 0)) (by simp), M9.lt (b := zb) (c := STR 0 (.slice none 0 0)) (by simp)⟩) x.at_) (fun w10 M11 => ?_)
      try simp only [Act.put, List.setIfInBounds_toArray, List.set_cons_succ, List.set_cons_zero]
      refine wpT_valp 51 (v := .bool false) rfl rfl (by simp [Region.wanted, yielded, Act.put]) (by go_simp) ?_
      refine wpT_valp 52 (v := .bool false) rfl rfl rfl (by go_simp) ?_
      refine wpT_valp 53 (v := .bool false) rfl rfl rfl (by go_simp) ?_
      refine wpT_valp 54 (v := .pointer (some ⟨zb, 0, none⟩)) rfl rfl (by simp [Region.wanted, yielded, Act.put]) (by go_simp) ?_
      refine wpT_valp 55 (v := .pointer (some ⟨w.heap.size, 2, none⟩)) rfl rfl (by simp [Region.wanted, yielded, Act.put]) (by go_simp) ?_
      try simp only [Act.put, List.setIfInBounds_toArray, List.set_cons_succ, List.set_cons_zero]
      refine wpT_valp 56 (v := .int .i64 x.at_) rfl rfl (by simp [Region.wanted, yielded, Act.put]) (by have c0 := a6_c2 (M11.row (b := w.heap.size) (c := AC6 x) (by simp)); go_simp) ?_
      refine wpT_callv 57 M11 (v := .int .i64 1) rfl rfl (by simp [Region.wanted, yielded, Act.put]) (by go_simp) (ltwice_b w10 _ (.inr ⟨zb, rfl, M11.row (b := zb) (c := STR 0 (.slice none 0 0)) (by simp), M11.lt (b := zb) (c := STR 0 (.slice none 0 0)) (by simp)⟩) x.at_) (fun w12 M13 => ?_)
      refine wpT_valp 58 (v := .bool false) rfl rfl (by simp [Region.wanted, yielded, Act.put]) (by go_simp) ?_
      refine wpT_valp 59 (v := .bool false) rfl rfl rfl (by go_simp) ?_
      refine wpT_valp 60 (v := .bool false) rfl rfl rfl (by go_simp) ?_
      try simp only [Act.put, List.setIfInBounds_toArray, List.set_cons_succ, List.set_cons_zero]
      refine wpT_valp 61 (v := .pointer (some ⟨zb, 0, none⟩)) rfl rfl (by simp [Region.wanted, yielded, Act.put]) (by go_simp) ?_
      refine wpT_valp 62 (v := .pointer (some ⟨w.heap.size, 2, none⟩)) rfl rfl (by simp [Region.wanted, yielded, Act.put]) (by go_simp) ?_
      refine wpT_valp 63 (v := .int .i64 x.at_) rfl rfl (by simp [Region.wanted, yielded, Act.put]) (by have c0 := a6_c2 (M13.row (b := w.heap.size) (c := AC6 x) (by simp)); go_simp) ?_
      refine wpT_valp 64 (v := .pointer (some ⟨w.heap.size, 4, none⟩)) rfl rfl (by simp [Region.wanted, yielded, Act.put]) (by go_simp) ?_
      refine wpT_valp 65 (v := .int .i64 x.byt) rfl rfl (by simp [Region.wanted, yielded, Act.put]) (by have c0 := a6_c4 (M13.row (b := w.heap.size) (c := AC6 x) (by simp)); go_simp) ?_
      try simp only [Act.put, List.setIfInBounds_toArray, List.set_cons_succ, List.set_cons_zero]
      refine wpT_valp 66 (v := .pointer (some ⟨w.heap.size, 1, none⟩)) rfl rfl (by simp [Region.wanted, yielded, Act.put]) (by go_simp) ?_
      refine wpT_valp 67 (v := U8 x.by_) rfl rfl (by simp [Region.wanted, yielded, Act.put]) (by have c0 := a6_c1 (M13.row (b := w.heap.size) (c := AC6 x) (by simp)); go_simp) ?_
      refine wpT_callv 68 M13 (v := .int .i64 1) rfl rfl (by simp [Region.wanted, yielded, Act.put]) (by go_simp) (lturn_b w12 _ (.inr ⟨zb, rfl, M13.row (b := zb) (c := STR 0 (.slice none 0 0)) (by simp), M13.lt (b := zb) (c := STR 0 (.slice none 0 0)) (by simp)⟩) x.at_ x.byt (U8 x.by_)) (fun w14 M15 => ?_)
      refine wpT_valp 69 (v := .bool false) rfl rfl (by simp [Region.wanted, yielded, Act.put]) (by go_simp) ?_
      refine wpT_valp 70 (v := .bool false) rfl rfl rfl (by go_simp) ?_
      try simp only [Act.put, List.setIfInBounds_toArray, List.set_cons_succ, List.set_cons_zero]
      refine wpT_valp 71 (v := .bool false) rfl rfl rfl (by go_simp) ?_
      refine wpT_valp 72 (v := .pointer (some ⟨zb, 0, none⟩)) rfl rfl (by simp [Region.wanted, yielded, Act.put]) (by go_simp) ?_
      refine wpT_newx (U := Option Addr × Nat) (fun ac => .slice ac.1 0 ac.2) (fun _ _ => True) 73 M15 rfl rfl (by simp [Region.wanted, yielded, Act.put]) (by go_simp) (lall_z w14 _ (.inr ⟨zb, rfl, M15.row (b := zb) (c := STR 0 (.slice none 0 0)) (by simp), M15.lt (b := zb) (c := STR 0 (.slice none 0 0)) (by simp)⟩)) (fun ac wal _ _ Mal => ?_)
      refine wpT_valp 74 (v := .int .i64 0) rfl rfl (by simp [Region.wanted, yielded, Act.put]) (by go_simp) ?_
      refine wpT_valp 75 (v := .bool false) rfl rfl (by simp [Region.wanted, yielded, Act.put]) (by go_simp) ?_
      try simp only [Act.put, List.setIfInBounds_toArray, List.set_cons_succ, List.set_cons_zero]
      refine wpT_valp 76 (v := .bool false) rfl rfl rfl (by go_simp) ?_
      refine wpT_valp 77 (v := .bool false) rfl rfl rfl (by go_simp) ?_
      refine wpT_valp 78 (v := .pointer (some ⟨zb, 0, none⟩)) rfl rfl (by simp [Region.wanted, yielded, Act.put]) (by go_simp) ?_
      refine wpT_callv 79 Mal (v := .int .i64 0) rfl rfl (by simp [Region.wanted, yielded, Act.put]) (by go_simp) (llen_b wal _ (.inr ⟨zb, rfl, Mal.row (b := zb) (c := STR 0 (.slice none 0 0)) (by simp), Mal.lt (b := zb) (c := STR 0 (.slice none 0 0)) (by simp)⟩)) (fun w16 M17 => ?_)
      refine wpT_valp 80 (v := .bool false) rfl rfl (by simp [Region.wanted, yielded, Act.put]) (by go_simp) ?_
      try simp only [Act.put, List.setIfInBounds_toArray, List.set_cons_succ, List.set_cons_zero]
      refine wpT_valp 81 (v := .bool false) rfl rfl rfl (by go_simp) ?_
      first | refine wpT_fin ?_ | dsimp only [wpT]
      try simp only [Act.put, List.setIfInBounds_toArray, List.set_cons_succ, List.set_cons_zero]
      go_upto_region 9 with fail
      refine wp_region_lin (.op 0 (.op 1 .done)) (by rfl) ?_
      refine wpT_valp 82 (v := .int .i64 2) rfl rfl rfl (by have h : IntKind.i64.wrap 2 = 2 := i64w (by decide) (by decide); go_simp) ?_
      refine wpT_valp 16 (v := .int .i64 2) rfl rfl rfl (by go_simp) ?_
      first | refine wpT_fin ?_ | dsimp only [wpT]
      try simp only [Act.put, List.setIfInBounds_toArray, List.set_cons_succ, List.set_cons_zero]
      go_wp2_with fail
      go_roundw
      case rel => exact .inr (.inr ⟨rfl, M17.sub (.cons _ (.cons_cons _ (.cons_cons _ (.cons_cons _ .slnil))))⟩)
      case measure => simp only [intOf]; omega
    ·
      go_upto_region 4 with fail
      refine wp_region_lin (.op 0 .done) (by rfl) ?_
      refine wpT_valp 17 (v := .bool false) rfl rfl rfl (by go_simp) ?_
      first | refine wpT_fin ?_ | dsimp only [wpT]
      try simp only [Act.put, List.setIfInBounds_toArray, List.set_cons_succ, List.set_cons_zero]
      go_upto_region 10 with fail
      have M := M.sub (H' := [(w.heap.size, AC6 x)]) (.cons _ (.cons _ (.cons_cons _ .slnil)))
      refine wp_region_lin (.op 0 (.op 1 .done)) (by rfl) ?_
      refine wpT_objS (U := Nat) (fun b => .pointer (some ⟨b, 0, none⟩)) (fun b => LF b (.slice none 0 0) []) (fun b w => LX w B b 3 [] ([], .slice none 0 0)) (some 83) M rfl rfl rfl (by go_simp) (lnew_e _ _ 3 (by rw [HB.out]; exact M.size) (by decide) (by decide)) (fun b => LX.stb _ _ _ _ ([], .slice none 0 0)) (fun b wn Sn Mn Kn Fn => ?_)
      refine wpT_valp 7 (v := .pointer (some ⟨b, 0, none⟩)) rfl rfl rfl (by go_simp) ?_
      first | refine wpT_fin ?_ | dsimp only [wpT]
      try simp only [Act.put, List.setIfInBounds_toArray, List.set_cons_succ, List.set_cons_zero]
      go_upto_region 11 with fail
      refine wp_region_lin (.op 0 (.op 1 .done)) (by rfl) ?_
      refine wpT_mkz 84 736 _ _ Mn rfl rfl rfl rfl (by go_simp) (by go_simp) (by decide) (fun gz wz BZ M9 hz1 OZ => ?_)
      have hzb : b < gz := by have := ((Kn _ _ Mn).1.1.lt b (.inl rfl)).2; omega
      have hzw : w.heap.size < gz := by have := (Kn _ _ Mn).2.1.lt (b := w.heap.size) (c := AC6 x) (by simp); omega
      obtain ⟨hX0, MO0, hd0⟩ := Kn _ _ M9
      obtain ⟨Z, hZ⟩ : ∃ z, z = zs 736 := ⟨_, rfl⟩
      rw [← hZ] at OZ BZ
      have HZL := hid (show Z.length = 736 by rw [hZ]; simp [zs])
      have HZ0 := hid (show ∀ k, Z.getD k 0 = 0 from fun k => by rw [hZ]; exact getD_zs k)
      clear hZ
      obtain ⟨S5, M5, K5⟩ := MO0.keep (LXO.stb B b 3 [] ([], .slice none 0 0) (.slice (some ⟨gz, 0, none⟩) 736 736) Z) ⟨hX0, OZ.mono (by have := (Kn _ _ Mn).1.Bw; omega), dj0 hzb⟩ (fun q hq h => h.elim (hd0 q hq) (fun h => by
        simp only [List.mem_cons, List.not_mem_nil, or_false] at hq
        subst hq
        simp only [Value.ownBlock, Option.some.injEq] at h
        (try dsimp only at h)
        omega))
      have F5 : ∀ g, LG b ([], .slice none 0 0) (.slice (some ⟨gz, 0, none⟩) 736 736) g → no g ∨ w.heap.size ≤ g := fun g hg => hg.elim (Fn g) (fun h => .inr (by simp only [Value.ownBlock, Option.some.injEq] at h; omega))
      clear hX0 MO0 hd0 M9 OZ BZ
      refine wpT_valp 8 (v := .slice (some ⟨gz, 0, none⟩) 736 736) rfl rfl rfl (by go_simp) ?_
      first | refine wpT_fin ?_ | dsimp only [wpT]
      try simp only [Act.put, List.setIfInBounds_toArray, List.set_cons_succ, List.set_cons_zero]
      go_upto_region 12 with fail
      refine wp_region_lin (.op 0 (.op 1 (.op 2 (.op 3 (.op 4 (.op 5 (.op 6 (.op 7 (.op 8 (.op 9 (.op 10 (.op 11 (.op 12 (.op 13 .done)))))))))))))) (by rfl) ?_
      refine wpT_valp 85 (v := .pointer (some ⟨b, 0, none⟩)) rfl rfl rfl (by go_simp) ?_
      refine wpT_valp 86 (v := .bool false) rfl rfl rfl (by go_simp) ?_
      refine wpT_valp 87 (v := .bool false) rfl rfl rfl (by go_simp) ?_
      refine wpT_valp 88 (v := .pointer (some ⟨b, 0, none⟩)) rfl rfl (by simp [Region.wanted, yielded, Act.put]) (by go_simp) ?_
      try simp only [Act.put, List.setIfInBounds_toArray, List.set_cons_succ, List.set_cons_zero]
      refine wpT_valp 89 (v := .slice (some ⟨gz, 0, none⟩) 736 736) rfl rfl (by simp [Region.wanted, yielded, Act.put]) (by go_simp) ?_
      refine wpT_valL 90 (v := .agg (ITR 1 (.slice (some ⟨gz, 0, none⟩) 736 736))) rfl rfl (by simp [Region.wanted, yielded, Act.put]) (by have q := xb_itm2 wz 1 (some ⟨gz, 0, none⟩) 736 736; go_simp) ?_
      refine wpT_obj (U := List It × Value) (fun u1 => .int .i64 0) (fun u1 => LG b u1 (.slice (some ⟨gz, 0, none⟩) 736 736)) (fun u1 w => LXO w B b 3 [(1, Z)] u1 (.slice (some ⟨gz, 0, none⟩) 736 736) Z) (some 91) M5 K5 F5 rfl rfl (by simp [Region.wanted, yielded, Act.put]) (by go_simp) (fun hX => hX.lift (lput_e _ hX.lx (by decide) 1 _ Z hX.ob.bs (by decide) (put1 HZL.out))) (fun u1 => LXO.stb _ _ _ _ _ _ _) (fun u1 w1 Sw1 Mw1 K1 F1 => ?_)
      refine wpT_valp 92 (v := .bool false) rfl rfl (by simp [Region.wanted, yielded, Act.put]) (by go_simp) ?_
      refine wpT_valp 93 (v := .bool false) rfl rfl rfl (by go_simp) ?_
      try simp only [Act.put, List.setIfInBounds_toArray, List.set_cons_succ, List.set_cons_zero]
      refine wpT_valp 94 (v := .bool false) rfl rfl rfl (by go_simp) ?_
      refine wpT_valp 95 (v := .pointer (some ⟨b, 0, none⟩)) rfl rfl (by simp [Region.wanted, yielded, Act.put]) (by go_simp) ?_
      refine wpT_obj (U := List It × Value) (fun u2 => .int .i64 0) (fun u2 => LG b u2 (.slice (some ⟨gz, 0, none⟩) 736 736)) (fun u2 w => LXO w B b 3 [(1, Z), (1, Z)] u2 (.slice (some ⟨gz, 0, none⟩) 736 736) Z) (some 96) Mw1 K1 F1 rfl rfl (by simp [Region.wanted, yielded, Act.put]) (by go_simp) (fun hX => hX.lift (ltwice_e _ hX.lx (by decide) 0 (by simp) twice1)) (fun u2 => LXO.stb _ _ _ _ _ _ _) (fun u2 w2 Sw2 Mw2 K2 F2 => ?_)
      refine wpT_valp 97 (v := .bool false) rfl rfl (by simp [Region.wanted, yielded, Act.put]) (by go_simp) ?_
      refine wpT_valp 98 (v := .bool false) rfl rfl rfl (by go_simp) ?_
      first | refine wpT_fin ?_ | dsimp only [wpT]
      try simp only [Act.put, List.setIfInBounds_toArray, List.set_cons_succ, List.set_cons_zero]
      go_upto_region 14 with fail
      refine wp_region_lin (.op 0 (.op 1 (.op 2 .done))) (by rfl) ?_
      refine wpT_valp 99 (v := .slice (some ⟨gz, 0, none⟩) 736 736) rfl rfl rfl (by go_simp) ?_
      refine wpT_valp 100 (v := .pointer (some ⟨gz, 0, none⟩)) rfl rfl rfl (by go_simp) ?_
      obtain ⟨hX, MO, hd⟩ := K2 _ _ Mw2
      obtain ⟨f1, f2, hset⟩ := OB.setc hX.ob HZL.out 0 (by decide) 1#8
      refine wpT_stb (U8 1#8) inf_u8 rfl rfl rfl (by go_simp) (by go_simp; rfl) f2 (by simp [go_sem]) f1 rfl ?_
      have hgw : w.heap.size ≤ gz := (F2 gz (.inr rfl)).resolve_left (fun h => h)
      have MT := MO.setOwn (g := gz) ((w2.rowOf gz).setIfInBounds 0 (U8 1#8)) hgw (by
        intro h
        obtain ⟨q, hq, e⟩ := List.mem_map.1 h
        exact hd q hq (by rw [e]; exact (.inr rfl)))
      have hLX : LX (w2.setRow gz ((w2.rowOf gz).setIfInBounds 0 (U8 1#8))) B b 3 [(1, Z), (1, Z)] u2 := ⟨hX.lx.1.fr (F := fun y => y = gz) (Fr.setRow (Fr.refl (fun y => y = gz) _) (.inl rfl) _) (fun g hg e => hX.dj g (by rw [e]; rfl) hg), hX.lx.2⟩
      obtain ⟨Sa, Ma, Ka⟩ := MT.keep (LX.stb B b 3 [(1, Z), (1, Z)] u2) hLX (fun q hq h => hd q hq (.inl h))
      have Fa : ∀ g, LF b u2.2 u2.1 g → no g ∨ w.heap.size ≤ g := fun g h => F2 g (.inl h)
      obtain ⟨wTa, hwT⟩ : ∃ wT, wT = w2.setRow gz ((w2.rowOf gz).setIfInBounds 0 (U8 1#8)) := ⟨_, rfl⟩
      rw [← hwT] at Ma Ka ⊢
      clear hwT f1 f2 hset hX MO hd MT hLX
      first | refine wpT_fin ?_ | dsimp only [wpT]
      try simp only [Act.put, List.setIfInBounds_toArray, List.set_cons_succ, List.set_cons_zero]
      go_upto_region 15 with fail
      refine wp_region_lin (.op 0 (.op 1 (.op 2 (.op 3 (.op 4 (.op 5 (.op 6 .done))))))) (by rfl) ?_
      refine wpT_valp 101 (v := .pointer (some ⟨b, 0, none⟩)) rfl rfl rfl (by go_simp) ?_
      refine wpT_objN (U := List It × Value) (fun a => a.2) (fun a => AF a.2 a.1) (fun a w => AOD (LF b u2.2 u2.1) w B [(1, Z), (1, Z)] a) (some 102) Ma Ka Fa (LX.stb _ _ _ _ _) rfl rfl rfl (by go_simp) (fun hX => lall_d _ hX (by simp)) (fun a => AOD.stb _ _ _ _) (fun ac wc Swc Mwc Kc Fc => ?_)
      obtain ⟨yc, zc, gac, cac, ha1, ha2⟩ := two_item (Kc _ _ Mwc).1.2
      obtain ⟨Lac, vac⟩ := ac
      dsimp only at ha1 ha2
      subst ha1
      subst ha2
      refine wpT_valp 103 (v := .pointer (some ⟨gac, 0, none⟩)) rfl rfl rfl (by go_simp) ?_
      refine wpT_valp 104 (v := .pointer (some ⟨gac, 1, none⟩)) rfl rfl rfl (by go_simp) ?_
      try simp only [Act.put, List.setIfInBounds_toArray, List.set_cons_succ, List.set_cons_zero]
      refine wpT_valp 105 (v := .slice (some ⟨yc.g, 0, none⟩) 736 yc.c) rfl rfl rfl (by have c0 := two_v0 (Kc _ _ Mwc).1.2; go_simp) ?_
      refine wpT_valp 106 (v := .pointer (some ⟨yc.g, 1, none⟩)) rfl rfl rfl (by go_simp) ?_
      obtain ⟨hX, MO, hd⟩ := Kc _ _ Mwc
      obtain ⟨f1, f2, hset⟩ := OB.setc (two_ob hX.2) (two_len hX.2) 1 (by decide) 1#8
      refine wpT_stb (U8 1#8) inf_u8 rfl rfl rfl (by go_simp) (by go_simp; rfl) f2 (by simp [go_sem]) f1 rfl ?_
      have hgw : w.heap.size ≤ yc.g := (Fc yc.g (.inr (.inr (by simp)))).resolve_left (fun h => h)
      have MT := MO.setOwn (g := yc.g) ((wc.rowOf yc.g).setIfInBounds 1 (U8 1#8)) hgw (by
        intro h
        obtain ⟨q, hq, e⟩ := List.mem_map.1 h
        exact hd q hq (by rw [e]; exact (.inr (.inr (by simp)))))
      have hLX : LX (wc.setRow yc.g ((wc.rowOf yc.g).setIfInBounds 1 (U8 1#8))) B b 3 [(1, Z), (1, Z)] u2 := ⟨hX.1.1.fr (F := fun y => y = yc.g) (Fr.setRow (Fr.refl (fun y => y = yc.g) _) (.inl rfl) _) (fun g hg e => hX.2.dj g (by rw [e]; exact .inr (by simp)) hg), hX.1.2⟩
      obtain ⟨Sd, Md, Kd⟩ := MT.keep (LX.stb B b 3 [(1, Z), (1, Z)] u2) hLX (fun q hq h => hd q hq (.inl h))
      have Fd : ∀ g, LF b u2.2 u2.1 g → no g ∨ w.heap.size ≤ g := fun g h => Fc g (.inl h)
      obtain ⟨wTd, hwT⟩ : ∃ wT, wT = wc.setRow yc.g ((wc.rowOf yc.g).setIfInBounds 1 (U8 1#8)) := ⟨_, rfl⟩
      rw [← hwT] at Md Kd ⊢
      clear hwT f1 f2 hset hX MO hd MT hLX
      first | refine wpT_fin ?_ | dsimp only [wpT]
      try simp only [Act.put, List.setIfInBounds_toArray, List.set_cons_succ, List.set_cons_zero]
      go_upto_region 16 with fail
      refine wp_region_lin (.op 0 (.op 1 (.op 2 (.op 3 (.op 4 .done))))) (by rfl) ?_
      refine wpT_valp 107 (v := .pointer (some ⟨b, 0, none⟩)) rfl rfl rfl (by go_simp) ?_
      refine wpT_valp 108 (v := .pointer (some ⟨w.heap.size, 1, none⟩)) rfl rfl rfl (by go_simp) ?_
      refine wpT_valp 109 (v := U8 x.by_) rfl rfl rfl (by have c0 := a6_c1 (Md.row (b := w.heap.size) (c := AC6 x) (by simp)); go_simp) ?_
      refine wpT_obj (U := List It × Value) (fun u3 => .int .i64 0) (fun u3 => LF b u3.2 u3.1) (fun u3 w => LX w B b 3 [(1, Z), (1, Lk.turnB Z 2 x.by_)] u3) (some 110) Md Kd Fd rfl rfl rfl (by first | (go_simp; done) | (go_simp; rfl)) (fun hX => lturn_e _ hX (by decide) 1 2 x.by_ turn1) (fun u3 => LX.stb _ _ _ _ _) (fun u3 we Swe Mwe Ke Fe => ?_)
      try simp only [Act.put, List.setIfInBounds_toArray, List.set_cons_succ, List.set_cons_zero]
      refine wpT_valp 111 (v := .bool false) rfl rfl rfl (by go_simp) ?_
      first | refine wpT_fin ?_ | dsimp only [wpT]
      try simp only [Act.put, List.setIfInBounds_toArray, List.set_cons_succ, List.set_cons_zero]
      go_upto_region 18 with fail
      refine wp_region_lin (.op 0 (.op 1 (.op 2 .done))) (by rfl) ?_
      refine wpT_valp 112 (v := .pointer (some ⟨b, 0, none⟩)) rfl rfl rfl (by go_simp) ?_
      refine wpT_objN (U := List It × Value) (fun a => a.2) (fun a => AF a.2 a.1) (fun a w => AOD (LF b u3.2 u3.1) w B [(1, Z), (1, Lk.turnB Z 2 x.by_)] a) (some 113) Mwe Ke Fe (LX.stb _ _ _ _ _) rfl rfl rfl (by go_simp) (fun hX => lall_d _ hX (by simp)) (fun a => AOD.stb _ _ _ _) (fun af wf Swf Mwf Kf Ff => ?_)
      obtain ⟨yf, zf, gaf, caf, ha1, ha2⟩ := two_item (Kf _ _ Mwf).1.2
      obtain ⟨Laf, vaf⟩ := af
      dsimp only at ha1 ha2
      subst ha1
      subst ha2
      refine wpT_valp 9 (v := .slice (some ⟨gaf, 0, none⟩) 2 caf) rfl rfl rfl (by go_simp) ?_
      first | refine wpT_fin ?_ | dsimp only [wpT]
      try simp only [Act.put, List.setIfInBounds_toArray, List.set_cons_succ, List.set_cons_zero]
      go_upto_region 19 with fail
      refine wp_region_seq 42 [114, 115, 116, 117, 118, 119, 120, 121, 122, 123, 124, 125, 126, 127, 128, 129, 130, 131, 132, 133, 134, 135, 136, 137, 138, 139, 140, 141, 142, 143, 144, 145, 146, 147, 148, 149, 150, 151, 152, 153, 154, 2] [] [] [] (.done) (Mm Swf wf _) (by kernel_rfl) (by kernel_rfl) (by kernel_rfl) (fun d _ _ _ _ h => by cases d <;> exact h) (by rfl) Mwf.size (fun _ _ h k => h.sf k) Mwf ?_
      simp only [List.append_eq, List.cons_append, List.nil_append, List.take_succ_cons, List.take_zero]
      refine SeqA.pure (.slice (some ⟨gaf, 0, none⟩) 2 caf) (fun w' => by go_simp) rfl rfl ?_
      refine SeqA.pure (.int .i64 2) (fun w' => by go_simp) rfl rfl ?_
      refine SeqA.pure (.bool true) (fun w' => by go_simp) rfl rfl ?_
      refine SeqA.pure (.bool true) (fun w' => by go_simp) rfl rfl ?_
      refine SeqA.pure (.slice (some ⟨gaf, 0, none⟩) 2 caf) (fun w' => by go_simp) rfl (by simp [Region.wanted, yielded, Act.put]) ?_
      simp only [Act.put, List.setIfInBounds_toArray, List.set_cons_succ, List.set_cons_zero]
      refine SeqA.pure (.pointer (some ⟨gaf, 0, none⟩)) (fun w' => by go_simp) rfl (by simp [Region.wanted, yielded, Act.put]) ?_
      refine SeqA.pure (.pointer (some ⟨gaf, 1, none⟩)) (fun w' => by go_simp) rfl (by simp [Region.wanted, yielded, Act.put]) ?_
      refine SeqA.read (.slice (some ⟨yf.g, 0, none⟩) 736 yf.c) (fun w' M => by have c0 := two_v0 (Kf _ _ M).1.2; go_simp) rfl (by simp [Region.wanted, yielded, Act.put]) ?_
      refine SeqA.pure (.pointer (some ⟨yf.g, 0, none⟩)) (fun w' => by go_simp) rfl (by simp [Region.wanted, yielded, Act.put]) ?_
      refine SeqA.read (.int .u8 0) (fun w' M => by have c0 := two_b0 (Kf _ _ M).1.2 0 (by decide); rw [HZ0.out] at c0; have c1 : U8 (0 : BitVec 8) = .int .u8 0 := rfl; rw [c1] at c0; go_simp) rfl (by simp [Region.wanted, yielded, Act.put]) ?_
      refine SeqA.pure (.bool true) (fun w' => by go_simp) rfl (by simp [Region.wanted, yielded, Act.put]) ?_
      simp only [Act.put, List.setIfInBounds_toArray, List.set_cons_succ, List.set_cons_zero]
      refine SeqA.pure (.bool true) (fun w' => by go_simp) rfl rfl ?_
      refine SeqA.pure (.bool true) (fun w' => by go_simp) rfl rfl ?_
      refine SeqA.pure (.slice (some ⟨gaf, 0, none⟩) 2 caf) (fun w' => by go_simp) rfl (by simp [Region.wanted, yielded, Act.put]) ?_
      refine SeqA.pure (.pointer (some ⟨gaf, 0, none⟩)) (fun w' => by go_simp) rfl (by simp [Region.wanted, yielded, Act.put]) ?_
      refine SeqA.pure (.pointer (some ⟨gaf, 1, none⟩)) (fun w' => by go_simp) rfl (by simp [Region.wanted, yielded, Act.put]) ?_
      refine SeqA.read (.slice (some ⟨yf.g, 0, none⟩) 736 yf.c) (fun w' M => by have c0 := two_v0 (Kf _ _ M).1.2; go_simp) rfl (by simp [Region.wanted, yielded, Act.put]) ?_
      simp only [Act.put, List.setIfInBounds_toArray, List.set_cons_succ, List.set_cons_zero]
      refine SeqA.pure (.pointer (some ⟨yf.g, 1, none⟩)) (fun w' => by go_simp) rfl (by simp [Region.wanted, yielded, Act.put]) ?_
      refine SeqA.read (.int .u8 0) (fun w' M => by have c0 := two_b0 (Kf _ _ M).1.2 1 (by decide); rw [HZ0.out] at c0; have c1 : U8 (0 : BitVec 8) = .int .u8 0 := rfl; rw [c1] at c0; go_simp) rfl (by simp [Region.wanted, yielded, Act.put]) ?_
      refine SeqA.pure (.bool true) (fun w' => by go_simp) rfl (by simp [Region.wanted, yielded, Act.put]) ?_
      refine SeqA.pure (.bool true) (fun w' => by go_simp) rfl rfl ?_
      refine SeqA.pure (.bool true) (fun w' => by go_simp) rfl rfl ?_
      refine SeqA.pure (.slice (some ⟨gaf, 0, none⟩) 2 caf) (fun w' => by go_simp) rfl (by simp [Region.wanted, yielded, Act.put]) ?_
      simp only [Act.put, List.setIfInBounds_toArray, List.set_cons_succ, List.set_cons_zero]
      refine SeqA.pure (.pointer (some ⟨gaf, 0, none⟩)) (fun w' => by go_simp) rfl (by simp [Region.wanted, yielded, Act.put]) ?_
      refine SeqA.pure (.pointer (some ⟨gaf, 1, none⟩)) (fun w' => by go_simp) rfl (by simp [Region.wanted, yielded, Act.put]) ?_
      refine SeqA.read (.slice (some ⟨yf.g, 0, none⟩) 736 yf.c) (fun w' M => by have c0 := two_v0 (Kf _ _ M).1.2; go_simp) rfl (by simp [Region.wanted, yielded, Act.put]) ?_
      refine SeqA.pure (.pointer (some ⟨yf.g, 2, none⟩)) (fun w' => by go_simp) rfl (by simp [Region.wanted, yielded, Act.put]) ?_
      refine SeqA.read (.int .u8 0) (fun w' M => by have c0 := two_b0 (Kf _ _ M).1.2 2 (by decide); rw [HZ0.out] at c0; have c1 : U8 (0 : BitVec 8) = .int .u8 0 := rfl; rw [c1] at c0; go_simp) rfl (by simp [Region.wanted, yielded, Act.put]) ?_
      refine SeqA.pure (.bool true) (fun w' => by go_simp) rfl (by simp [Region.wanted, yielded, Act.put]) ?_
      simp only [Act.put, List.setIfInBounds_toArray, List.set_cons_succ, List.set_cons_zero]
      refine SeqA.pure (.bool true) (fun w' => by go_simp) rfl rfl ?_
      refine SeqA.pure (.bool true) (fun w' => by go_simp) rfl rfl ?_
      refine SeqA.pure (.slice (some ⟨gaf, 0, none⟩) 2 caf) (fun w' => by go_simp) rfl (by simp [Region.wanted, yielded, Act.put]) ?_
      refine SeqA.pure (.pointer (some ⟨gaf, 2, none⟩)) (fun w' => by go_simp) rfl (by simp [Region.wanted, yielded, Act.put]) ?_
      refine SeqA.pure (.pointer (some ⟨gaf, 3, none⟩)) (fun w' => by go_simp) rfl (by simp [Region.wanted, yielded, Act.put]) ?_
      refine SeqA.read (.slice (some ⟨zf.g, 0, none⟩) 736 zf.c) (fun w' M => by have c0 := two_v1 (Kf _ _ M).1.2; go_simp) rfl (by simp [Region.wanted, yielded, Act.put]) ?_
      simp only [Act.put, List.setIfInBounds_toArray, List.set_cons_succ, List.set_cons_zero]
      refine SeqA.pure (.pointer (some ⟨zf.g, 2, none⟩)) (fun w' => by go_simp) rfl (by simp [Region.wanted, yielded, Act.put]) ?_
      refine SeqA.read (U8 x.by_) (fun w' M => by have c0 := two_b1 (Kf _ _ M).1.2 2 (by decide); rw [turn_b HZL.out HZ0.out] at c0; go_simp) rfl (by simp [Region.wanted, yielded, Act.put]) ?_
      refine SeqA.pure (.pointer (some ⟨w.heap.size, 1, none⟩)) (fun w' => by go_simp) rfl (by simp [Region.wanted, yielded, Act.put]) ?_
      refine SeqA.read (U8 x.by_) (fun w' M => by have c0 := a6_c1 (M.row (b := w.heap.size) (c := AC6 x) (by simp)); go_simp) rfl (by simp [Region.wanted, yielded, Act.put]) ?_
      refine SeqA.pure (.bool true) (fun w' => by go_simp) rfl (by simp [Region.wanted, yielded, Act.put]) ?_
      refine SeqA.pure (.bool true) (fun w' => by go_simp) rfl rfl ?_
      simp only [Act.put, List.setIfInBounds_toArray, List.set_cons_succ, List.set_cons_zero]
      refine SeqA.pure (.bool true) (fun w' => by go_simp) rfl rfl ?_
      refine SeqA.nil (fun w1 M2 hz => ?_)
      show wpT _ _ _ _ _ _
      simp only [Act.put, List.setIfInBounds_toArray, List.set_cons_succ, List.set_cons_zero]
      first | refine wpT_fin ?_ | dsimp only [wpT]
      go_wp2_with fail
      go_ret
      exact ⟨rfl, (Kf _ _ M2).2.1.end_⟩
end Go.Proofs.Ytojkcbhmhfjioaa
