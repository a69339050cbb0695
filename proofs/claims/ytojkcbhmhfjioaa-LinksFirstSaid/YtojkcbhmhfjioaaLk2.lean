/-
  Package links: items in memory; own, Delete, New, fault, behind, Put; own work.
-/
import Derived.Test.YtojkcbhmhfjioaaLk1
set_option linter.unusedSimpArgs false
set_option linter.unusedVariables false
namespace Go.Proofs.Ytojkcbhmhfjioaa
open Go.RowKit Lk
theorem wpT_sbx' {S : Nat → Prop} {w0 w : World} {H : List (Nat × Array Value)} {P : Program} {ops : Array Oper} {Q : Exit → Act → World → Prop} {i : Nat} {t : Tr} {a : Act} {o : Oper} {c : Array Value} {T : TypeId} (dst : Nat) (M : Mm S w0 H w) (hT : T ≠ 5) (hdst : o.dst = some dst) (ho : ops[i]? = some o) (hw : Region.wanted o (yielded ops a.tmps) = true)
    (hrun : (execOp a.eval o).run P w = .ok (.value (.pointer (some ⟨w.heap.size, 0, none⟩))) (w.alloc (.cells c T)))
    (h : ∀ b w', w0.heap.size ≤ b → Mm S w0 ((b, c) :: H) w' → wpT P ops Q t (a.put (some dst) (.pointer (some ⟨b, 0, none⟩))) w') : wpT P ops Q (.op i t) a w :=
  wpT_val ho hw hrun (by rw [hdst]; exact h _ _ M.size (M.alloc c T hT))
/-- a step: a call behind which nothing more is done -/
theorem wpT_last {P : Program} {ops : Array Oper} {Q : Exit → Act → World → Prop} {i : Nat} {t : Tr} {a : Act} {o : Oper} {w : World} {f : FuncId} {args : Array Value} {R : Ending → World → Prop} {V : Value} (dst : Nat) (hdst : o.dst = some dst) (ho : ops[i]? = some o) (hw : Region.wanted o (yielded ops a.tmps) = true) (hrun : (execOp a.eval o).run P w = .ok (.enter f args) w)
    (hc : Calls P f args w R) (hV : ∀ e w', R e w' → e = .returned V) (h : ∀ w', R (.returned V) w' → wpT P ops Q t (a.put (some dst) V) w') : wpT P ops Q (.op i t) a w := by
  refine wpT_call ho hw hrun hc (fun e w' hR => ?_)
  obtain rfl := hV e w' hR
  exact ⟨V, rfl, by rw [hdst]; exact h w' hR⟩
/-- an item with bytes of its own -/
structure It where
  too : Int
  g : Nat
  c : Nat
  l : B8
instance : Inhabited It := ⟨⟨0, 0, 0, []⟩⟩
def It.v (x : It) : Value := .slice (some ⟨x.g, 0, none⟩) 736 x.c
def It.ab (x : It) : Pa := (x.too, x.l)
def eI (x : It) : List Value := [.int .i64 x.too, x.v]
theorem eI_len (x : It) : (eI x).length = 2 := rfl
theorem one_eI (x : It) : ∀ u ∈ eI x, u.oneCell' = true := by
  intro u hu
  simp only [eI, It.v, List.mem_cons, List.not_mem_nil, or_false] at hu
  rcases hu with rfl | rfl <;> rfl
theorem one_ITR0 : ∀ u ∈ (ITR 0 (.slice none 0 0)).toList, u.oneCell' = true := by
  intro u hu
  simp only [ITR, List.mem_cons, List.not_mem_nil, or_false] at hu
  rcases hu with rfl | rfl <;> rfl
theorem elt_itm : Elt Try.prog 72 91 2 32 (.agg (ITR 0 (.slice none 0 0))) := ⟨Try.underlying91, by kernel_rfl, by simp [Value.cells], by decide, by decide, one_ITR0, by decide⟩
/-- items in a slice of one's own -/
structure AO (w : World) (B : Nat) (L : List It) (v : Value) : Prop where
  ow : Ow w B 2 v L.length (fl eI L)
  pk : ∀ x ∈ L, x.l.length = 736 ∧ OB w B x.v x.l
  nd : (L.map It.g).Nodup
  nv : ∀ g, obk v = some g → g ∉ L.map It.g
def AF (v : Value) (L : List It) : Nat → Prop := fun g => obk v = some g ∨ g ∈ L.map It.g
/-- links in memory -/
structure LO (w : World) (B b : Nat) (room : Int) (L : List It) (v : Value) : Prop where
  row : ∃ T, T ≠ 5 ∧ w.heap[b]? = some (.cells (STR room v) T (0, 0))
  bb : B ≤ b
  ao : AO w B L v
  ne : ¬ AF v L b
def LF (b : Nat) (v : Value) (L : List It) : Nat → Prop := fun g => g = b ∨ AF v L g
def HF (b : Nat) (v : Value) : Nat → Prop := fun g => g = b ∨ obk v = some g
section
variable {w w' : World} {B b : Nat} {room : Int} {L : List It} {v : Value} {F : Nat → Prop}
theorem AO.lt (R : AO w B L v) : ∀ g, AF v L g → B ≤ g ∧ g < w.heap.size := by
  rintro g (hg | hg)
  · exact R.ow.at_ g hg
  · obtain ⟨x, hx, rfl⟩ := List.mem_map.1 hg
    exact (R.pk x hx).2.at_ _ rfl
theorem AO.fr (R : AO w B L v) (hf : Fr F w w') (hF : ∀ g, AF v L g → ¬ F g) : AO w' B L v :=
  ⟨R.ow.fr hf (fun g hg => hF g (.inl hg)), fun x hx => ⟨(R.pk x hx).1, (R.pk x hx).2.fr' hf (fun g hg => hF g (.inr (by simp only [It.v, Value.ownBlock, Option.some.injEq] at hg; subst hg; exact List.mem_map.2 ⟨x, hx, rfl⟩)))⟩, R.nd, R.nv⟩
theorem AO.stb (B : Nat) (L : List It) (v : Value) : Stb (AF v L) (fun w => AO w B L v) := ⟨fun h hf hd => h.fr hf hd, fun h hg => (h.lt _ hg).2⟩
theorem LO.lt (R : LO w B b room L v) : ∀ g, LF b v L g → B ≤ g ∧ g < w.heap.size := by
  rintro g (rfl | hg)
  · obtain ⟨T, hT, h⟩ := R.row
    exact ⟨R.bb, (Array.getElem?_eq_some_iff.1 h).1⟩
  · exact R.ao.lt g hg
theorem LO.fr (R : LO w B b room L v) (hf : Fr F w w') (hF : ∀ g, LF b v L g → ¬ F g) : LO w' B b room L v := by
  obtain ⟨T, hT, h⟩ := R.row
  exact ⟨⟨T, hT, (hf.block b (R.lt b (.inl rfl)).2 (hF b (.inl rfl))).trans h⟩, R.bb, R.ao.fr hf (fun g hg => hF g (.inr hg)), R.ne⟩
theorem LO.stb (B b : Nat) (room : Int) (L : List It) (v : Value) : Stb (LF b v L) (fun w => LO w B b room L v) := ⟨fun h hf hd => h.fr hf hd, fun h hg => (h.lt _ hg).2⟩
theorem LO.below (R : LO w B b room L v) (hb : Below w.heap.size w w') : LO w' B b room L v := (LO.stb B b room L v).below R hb
theorem LO.rowOf (R : LO w B b room L v) : w.rowOf b = STR room v := by obtain ⟨T, hT, h⟩ := R.row; exact rowOf_eq h
theorem LO.new {w0 : World} {H : List (Nat × Array Value)} (M : Mm no w0 H w) (hb : w0.heap.size ≤ b) (hm : (b, STR room (.slice none 0 0)) ∈ H) : LO w w0.heap.size b room [] (.slice none 0 0) := by
  obtain ⟨_, T, hT, h⟩ := M.own _ hm
  exact ⟨⟨T, hT, h⟩, hb, ⟨Ow.nil _ _ _ _, (fun x hx => by cases hx), by simp, by simp⟩, by simp [AF, obk]⟩
/-- what a call that turns links leaves behind -/
def LPost (w : World) (B b : Nat) (room : Int) (v : Value) (L : List It) (res : List Pa × Int) : Ending → World → Prop := fun e w' =>
  ∃ L' v', e = .returned (.int .i64 res.2) ∧ LO w' B b room L' v' ∧ L'.map It.ab = res.1 ∧ Fr (LF b v L) w w' ∧ ∀ g, LF b v' L' g → LF b v L g ∨ w.heap.size ≤ g
theorem LPost.ret {M2 : List Pa} {q : Int} {e : Ending} (h : LPost w B b room v L (M2, q) e w') : e = .returned (.int .i64 q) := by obtain ⟨_, _, he, _⟩ := h; exact he
theorem LPost.same (R : LO w B b room L v) (hb : Below w.heap.size w w') (q : Int) : LPost w B b room v L (L.map It.ab, q) (.returned (.int .i64 q)) w' :=
  ⟨L, v, rfl, R.below hb, rfl, Fr.of_below hb, fun g hg => .inl hg⟩
theorem LPost.trans {w1 : World} {res : List Pa × Int} {e : Ending} (R : LO w B b room L v) (hb : Below w.heap.size w w1) (h : LPost w1 B b room v L res e w') : LPost w B b room v L res e w' := by
  obtain ⟨L', v', he, hR, hm, hf, hg⟩ := h
  exact ⟨L', v', he, hR, hm, (Fr.of_below hb).trans (hf.mono (fun _ _ h => .inl h)), fun g h => (hg g h).imp id (fun h => Nat.le_trans hb.size h)⟩
end
set_option maxRecDepth 100000
attribute [local irreducible] STR RSR wpT
set_option maxHeartbeats 2000000 in
theorem bclone_c (w : World) (v : Value) (l : B8) (hB : BS w v l) (h9 : l.length ≤ 100000) :
    Calls Try.prog 51 #[v] w fun e w' => ∃ u, e = .returned u ∧ OB w' w.heap.size u l ∧ Below w.heap.size w w' := by
  have HBS : Hid (∀ w', Below w.heap.size w w' → BS w' v l) := hid fun w' h => SV.below hB h
  obtain ⟨n, hn⟩ : ∃ n, l.length = n := ⟨_, rfl⟩
  obtain ⟨a, cap, rfl, hc, hm, hx⟩ := hB
  cases a with
  | none =>
    obtain rfl : l = [] := by
      cases l with
      | nil => rfl
      | cons x r =>
        obtain ⟨b, o, e, _⟩ := hx (by simp)
        cases e
    obtain rfl : 0 = n := hn
    clear HBS hx hc hm
    have M0 := Mm.start no w
    go_enter Try.func51, Try.ntmps51
    go_upto_region 1 with fail
    refine wp_region_lin (.op 0 (.op 1 .done)) (by rfl) ?_
    refine wpT_valp 3 (v := .slice none 0 cap) rfl rfl rfl (by go_simp) ?_
    refine wpT_valp 4 (v := .bool true) rfl rfl rfl (by have q := eqb_nil1 w cap; go_simp) ?_
    first | dsimp only [wpT] | refine wpT_fin ?_
    try simp only [Act.put, List.setIfInBounds_toArray, List.set_cons_succ, List.set_cons_zero]
    go_upto_region 2 with fail
    refine wp_region_lin (.op 0 .done) (by rfl) ?_
    refine wpT_valp 2 (v := .slice none 0 0) rfl rfl rfl (by go_simp) ?_
    first | dsimp only [wpT] | refine wpT_fin ?_
    try simp only [Act.put, List.setIfInBounds_toArray, List.set_cons_succ, List.set_cons_zero]
    go_wp2_with fail
    go_ret
    exact ⟨_, rfl, OB.nil _ _, M0.end_⟩
  | some ad =>
    rw [hn] at HBS ⊢
    clear hx hc hm hn
    have M0 := Mm.start no w
    go_enter Try.func51, Try.ntmps51
    go_upto_region 1 with fail
    refine wp_region_lin (.op 0 (.op 1 .done)) (by rfl) ?_
    refine wpT_valp 3 (v := .slice (some ad) n cap) rfl rfl rfl (by go_simp) ?_
    refine wpT_valp 4 (v := .bool false) rfl rfl rfl (by have q := eqb_nil0 w ad n cap; go_simp) ?_
    first | dsimp only [wpT] | refine wpT_fin ?_
    try simp only [Act.put, List.setIfInBounds_toArray, List.set_cons_succ, List.set_cons_zero]
    go_upto_region 3 with fail
    have HSZ := hid M0.size
    refine wp_region_lin (.op 0 (.op 1 (.op 2 (.op 3 .done)))) (by rfl) ?_
    refine wpT_bs08 5 M0 rfl rfl rfl (by go_simp) (fun gb wB OB0 hgb hwB MB => ?_)
    refine wpT_valp 6 (v := .slice (some ad) n cap) rfl rfl rfl (by go_simp) ?_
    refine wpT_apb 7 _ _ MB w.heap.size (.slice (some ⟨gb, 0, none⟩) 0 0) (.slice (some ad) n cap) [] l rfl rfl rfl rfl (by go_simp) (OB0.mono (by have := HSZ.out; omega)) (by go_simp) (HBS.out _ MB.end_) (by simp; omega) MB.size (Nat.le_refl _) (fun g hg p hp => by cases hp) (fun ua wA OA MA => ?_)
    rw [List.nil_append] at OA
    refine wpT_valp 2 (v := ua) rfl rfl rfl (by go_simp) ?_
    first | dsimp only [wpT] | refine wpT_fin ?_
    try simp only [Act.put, List.setIfInBounds_toArray, List.set_cons_succ, List.set_cons_zero]
    go_wp2_with fail
    go_ret
    exact ⟨_, rfl, OA, MA.end_⟩
set_option maxHeartbeats 2000000 in
theorem own_c (w : World) (too : Int) (v : Value) (l : B8) (hB : BS w v l) (hl : l.length = 736) :
    Calls Try.prog 48 #[.agg (ITR too v)] w fun e w' => ∃ p : Nat × Nat, e = .returned (.agg (ITR too (.slice (some ⟨p.1, 0, none⟩) 736 p.2))) ∧ OB w' w.heap.size (.slice (some ⟨p.1, 0, none⟩) 736 p.2) l ∧ Below w.heap.size w w' := by
  have HBS : Hid (∀ w', Below w.heap.size w w' → BS w' v l) := hid fun w' h => SV.below hB h
  obtain ⟨a, c, rfl, _⟩ := hB.shape' 736 hl
  have HLN := hid hl
  have HL9 := hid (show l.length ≤ 100000 by omega)
  have HFIN : Hid (∀ (w5 wc : World) (S1 : Nat → Prop) (xa : Option Addr) (xc : Nat) (c c' : Array Value) (H : List (Nat × Array Value)) (wz : World), w.heap.size + 1 < w5.heap.size → (∀ g, S1 g → g ∈ [(w.heap.size + 1, c), (w.heap.size, c')].map (·.1)) → OB wc w5.heap.size (.slice xa 736 xc) l → Mm S1 wc H wz → Mm no w H wz →
      ∃ p : Nat × Nat, Ending.returned (.agg (ITR too (.slice xa 736 xc))) = .returned (.agg (ITR too (.slice (some ⟨p.1, 0, none⟩) 736 p.2))) ∧ OB wz w.heap.size (.slice (some ⟨p.1, 0, none⟩) 736 p.2) l ∧ Below w.heap.size w wz) := by
    refine hid fun w5 wc S1 xa xc c c' H wz hsz hS1 hO M1 MZ => ?_
    obtain ⟨_, ⟨e, _⟩ | ⟨g, cap, cur, e, hb, hg, _⟩⟩ := id hO
    · injection e with _ e _; cases e
    · injection e with e1 _ e3
      subst e1; subst e3
      refine ⟨(g, xc), rfl, (hO.fr' M1.fr (fun x hx hs => ?_)).mono (by omega), MZ.end_⟩
      have h1 := hS1 x hs
      simp only [Value.ownBlock, Option.some.injEq] at hx
      simp only [List.map_cons, List.map_nil, List.mem_cons, List.not_mem_nil, or_false] at h1
      omega
  clear hB hl
  have M0 := Mm.start no w
  go_enter Try.func48, Try.ntmps48
  have M2 := ((M0.alloc (ITR too (.slice a 736 c)) 72 (by decide)).alloc (ITR 0 (.slice none 0 0)) 72 (by decide))
  try simp only [World.size_alloc] at M2
  go_upto_region 1 with fail
  obtain ⟨w1, hw1⟩ : ∃ w1, w1 = ((w.alloc (.cells (ITR too (.slice a 736 c)) 72)).alloc (.cells (ITR 0 (.slice none 0 0)) 72)) := ⟨_, rfl⟩
  rw [← hw1] at M2 ⊢
  clear hw1
  refine wp_region_Z (fun v => v.rowOf (w.heap.size) = ITR too (.slice a 736 c)) 6 (.yld [0, 1, 2, 3] (.op 4 (.op 5 (.rest (.op 6 .done))))) (by kernel_rfl) (by kernel_rfl) (by kernel_rfl) (fun d _ _ _ _ h => by cases d <;> exact h) ?_
  have M3 := M2.drewN 1
  change wpZ _ _ _ _ _ _ (w1.drewN 1)
  obtain ⟨w4, hw4⟩ : ∃ w4, w4 = w1.drewN 1 := ⟨_, rfl⟩
  rw [← hw4] at M3 ⊢
  clear hw4
  refine wpZ_yld ?_
  refine wpYJd_op 3 (.pointer (some ⟨w.heap.size, 0, none⟩)) rfl rfl rfl (fun w1 h => by go_simp) ?_
  refine wpYJd_op 4 (.int .i64 too) rfl rfl rfl (fun w1 h => by have c0 := it_c0 h; clear h; go_simp) ?_
  refine wpYJd_op 5 (.pointer (some ⟨w.heap.size, 1, none⟩)) rfl rfl rfl (fun w1 h => by go_simp) ?_
  refine wpYJd_op 6 (.slice a 736 c) rfl rfl rfl (fun w1 h => by have c0 := it_c1 h; clear h; go_simp) ?_
  show wpZ _ _ _ _ _ _ _
  try simp only [Act.put, List.setIfInBounds_toArray, List.set_cons_succ, List.set_cons_zero]
  refine wpZ_of (by exact M3.row (b := w.heap.size) (c := ITR too (.slice a 736 c)) (by simp)) ?_
  have hsz := M3.lt (b := w.heap.size + 1) (c := ITR 0 (.slice none 0 0)) (by simp)
  refine wpT_newx (U := Value) (fun u => u) (fun u w' => OB w' w4.heap.size u l) 7 M3 rfl rfl rfl (by go_simp) (bclone_c w4 _ l (HBS.out _ M3.end_) HL9.out) (fun uc wc OC hwc MC => ?_)
  obtain ⟨xa, xc, hxa, _⟩ := OC.bs.shape' 736 HLN.out
  subst hxa
  obtain ⟨S1, MB, hS1, hT1⟩ := MC.rebase
  have HOC := hid OC
  clear OC
  refine wpZ_to ?_
  try simp only [Act.put, List.setIfInBounds_toArray, List.set_cons_succ, List.set_cons_zero]
  refine wpZ_of (by exact MB.row (b := w.heap.size) (c := ITR too (.slice a 736 c)) (by simp)) ?_
  refine wpT_valL 8 (v := .agg (ITR too (.slice xa 736 xc))) rfl rfl rfl (by have q := xb_itm2 wc too xa 736 xc; go_simp) ?_
  refine wpZ_to ?_
  try simp only [Act.put, List.setIfInBounds_toArray, List.set_cons_succ, List.set_cons_zero]
  refine wpZ_rest (by exact MB.row (b := w.heap.size) (c := ITR too (.slice a 736 c)) (by simp)) ?_
  refine wpT_st0 MB 0 (ITR too (.slice xa 736 xc)) inf_itm rfl rfl rfl rfl (by go_simp) (by go_simp) (by simp [ITR_size, STR_size, RSR_size, AC6_size]) (by simp [ITR_size, STR_size, RSR_size, AC6_size]) (by simp [go_sem]) rfl (fun w5 M6 => ?_)
  dsimp only [List.set] at M6
  first | dsimp only [wpT] | refine wpT_fin ?_
  try simp only [Act.put, List.setIfInBounds_toArray, List.set_cons_succ, List.set_cons_zero]
  go_wp2_with fail
  have r7 := M6.row (b := w.heap.size + 1) (c := ITR too (.slice xa 736 xc)) (by simp)
  refine bodyPost_ret (res_row (b := w.heap.size + 1) rfl Try.underlying72 rfl inf_itm _ _ rfl (by rw [r7]; simp [ITR_size, STR_size, RSR_size, AC6_size])) rfl ?_
  rw [r7]
  exact HFIN.out _ _ _ _ _ _ _ _ _ hsz hS1 HOC.out M6 (hT1 _ _ M6)
set_option maxHeartbeats 2000000 in
theorem ldel_c (w : World) (base : Nat) (v : Value) (L : List It) (i : Nat) (hO : Ow w base 2 v L.length (fl eI L)) (hi : i < L.length) (h9 : L.length ≤ 100000) :
    Calls Try.prog 44 #[v, .int .i64 i, .int .i64 ((i + 1 : Nat) : Int)] w fun e w' => ∃ v', e = .returned v' ∧ Ow w' base 2 v' (L.length - 1) (fl eI (L.eraseIdx i)) ∧ Fr (fun g => obk v = some g) w w' ∧ obk v' = obk v := by
  obtain ⟨n, hn⟩ : ∃ n, L.length = n := ⟨_, rfl⟩
  rw [hn] at hO hi h9
  rcases id hO.2 with ⟨a, rfl, h00⟩ | ⟨g, cap, cur, T, rfl, h1, hT, h2, h3, h4, h5, h6, h7⟩
  · omega
  obtain ⟨c1, hc1⟩ : ∃ c, c = cap + 1 := ⟨_, rfl⟩
  obtain ⟨i1, hi1⟩ : ∃ j, j = i + 1 := ⟨_, rfl⟩
  obtain ⟨m, hm⟩ : ∃ j, j = n - i1 := ⟨_, rfl⟩
  obtain ⟨c2, hc2⟩ : ∃ j, j = c1 - i1 := ⟨_, rfl⟩
  obtain ⟨c3, hc3⟩ : ∃ j, j = c1 - (i + m) := ⟨_, rfl⟩
  have hob : obk (.slice (some ⟨g, 0, none⟩) n (cap + 1)) = some g := rfl
  rw [hob, ← hi1, hn, ← hc1]
  have M0 := Mm.lend hT h2
  obtain ⟨AD, hAD⟩ : ∃ A : Addr, A = if c1 = i1 then ⟨g, 0, none⟩ else ⟨g, i1 * 2, none⟩ := ⟨_, rfl⟩
  have HAD := hid (show m = 0 ∨ AD = ⟨g, i1 * 2, none⟩ by
    by_cases e : c1 = i1
    · left; omega
    · right; rw [hAD, if_neg e])
  have HAE := hid (show (if c1 = i1 then some (⟨g, 0, none⟩ : Addr) else some ⟨g, i1 * 2, none⟩) = some AD by rw [hAD]; split <;> rfl)
  have hnin : ¬ n = i := by omega
  have hiin : ¬ (i : Int) = (i1 : Int) := by omega
  have hi1n : (i1 : Int) ≤ (n : Int) := by omega
  have hi1c : (i1 : Int) ≤ (c1 : Int) := by omega
  have hii1 : (i : Int) ≤ (i1 : Int) := by omega
  have hic : (i : Int) ≤ (c1 : Int) := by omega
  have hin : (i : Int) ≤ (n : Int) := by omega
  have hnc : (n : Int) ≤ (c1 : Int) := by omega
  have hi00 : (0 : Int) ≤ (i : Int) := by omega
  have hicn : ¬ c1 = i := by omega
  have hmx : c1 ≤ 9223372036854775807 := by unfold maxLen at h4; omega
  have HSZ := hid (show cur.size = c1 * 2 by rw [h5, hc1])
  have HON := hid h7
  have HM := hid hm.symm
  have HC2 := hid hc2.symm
  have HC1 := hid (show n - (i + m) = 1 ∧ c1 - (i + m) = c3 ∧ ¬ c1 = i + m ∧ (0 : Int) ≤ (i : Int) + (m : Int) ∧ ((i : Int) + (m : Int)).toNat = i + m by omega)
  have hcp : 0 < c1 := by omega
  have HOB := hid (show obk (.slice (some ⟨g, 0, none⟩) (i + m) c1) = some g by rw [hc1]; rfl)
  have HFIN : Hid (∀ (cu2 cu3 : Array Value) (w' : World), cu2 = (cur.toList.take (i * 2) ++ ((cur.toList.drop (i1 * 2)).take (m * 2)) ++ cur.toList.drop (i * 2 + m * 2)).toArray → cu3 = (cu2.toList.take ((i + m) * 2) ++ (Builtin.zeroCells (Value.agg (ITR 0 (.slice none 0 0))).cells 1).toList ++ cu2.toList.drop ((i + m) * 2 + 1 * 2)).toArray → Mm (fun x => x = g) w [(g, cu3)] w' →
      Ow w' base 2 (.slice (some ⟨g, 0, none⟩) (i + m) c1) (n - 1) (fl eI (L.eraseIdx i))) := by
    refine hid fun cu2 cu3 w' e2 e3 M => ?_
    obtain ⟨d1, d2, d3⟩ := cut_fin eI_len hn hi hi1 hm (show n ≤ c1 by omega) HSZ.out h6 h7 (Builtin.zeroCells (Value.agg (ITR 0 (.slice none 0 0))).cells 1).toList (by simp [size_zeroCells, Value.cells]) (zero_one one_ITR0 (by simp) _) e2 e3
    have e4 : i + m = n - 1 := by omega
    rw [e4] at d2
    rw [e4, hc1]
    rw [hc1] at d1
    exact M.ow (by simp) h1 (by omega) h4 d1 d2 d3
  have him : (i : Int) + (m : Int) ≤ (n : Int) := by omega
  have him2 : (i : Int) + (m : Int) ≤ (c1 : Int) := by omega
  have hij : i ≤ i1 := by omega
  have hjm : i1 + m ≤ c1 := by omega
  have hcub : i * 2 + m * 2 + 1 * 2 ≤ c1 * 2 := by omega
  have hcua : i1 * 2 + m * 2 ≤ c1 * 2 := by omega
  clear hAD h2 h5 h6 h7 hO hc1 hi1 hm hc2 hc3 h1 h3 h4 hob
  go_enter Try.func44, Try.ntmps44
  go_upto_region 1 with fail
  refine wp_region_lin (.op 0 (.op 1 (.op 2 (.op 3 (.op 4 (.op 5 .done)))))) (by rfl) ?_
  refine wpT_valp 8 (v := .slice (some ⟨g, 0, none⟩) n c1) rfl rfl rfl (by go_simp) ?_
  refine wpT_valp 9 (v := .int .i64 i) rfl rfl rfl (by go_simp) ?_
  refine wpT_valp 10 (v := .int .i64 i1) rfl rfl rfl (by go_simp) ?_
  refine wpT_valp 11 (v := .slice (some ⟨g, 0, none⟩) n c1) rfl rfl rfl (by go_simp) ?_
  try simp only [Act.put, List.setIfInBounds_toArray, List.set_cons_succ, List.set_cons_zero]
  refine wpT_valp 12 (v := .int .i64 n) rfl rfl rfl (by go_simp) ?_
  refine wpT_valp 13 (v := .slice (some ⟨g, i * 2, none⟩) (i1 - i) (n - i)) rfl rfl rfl (by go_simp) ?_
  first | dsimp only [wpT] | refine wpT_fin ?_
  try simp only [Act.put, List.setIfInBounds_toArray, List.set_cons_succ, List.set_cons_zero]
  go_upto_region 2 with fail
  refine wp_region_lin (.op 0 (.op 1 (.op 2 .done))) (by rfl) ?_
  refine wpT_valp 14 (v := .int .i64 i) rfl rfl rfl (by go_simp) ?_
  refine wpT_valp 15 (v := .int .i64 i1) rfl rfl rfl (by go_simp) ?_
  refine wpT_valp 16 (v := .bool false) rfl rfl rfl (by go_simp) ?_
  first | dsimp only [wpT] | refine wpT_fin ?_
  try simp only [Act.put, List.setIfInBounds_toArray, List.set_cons_succ, List.set_cons_zero]
  go_upto_region 4 with fail
  refine wp_region_lin (.op 0 (.op 1 (.op 2 .done))) (by rfl) ?_
  refine wpT_valp 18 (v := .slice (some ⟨g, 0, none⟩) n c1) rfl rfl rfl (by go_simp) ?_
  refine wpT_valp 19 (v := .int .i64 n) rfl rfl rfl (by go_simp) ?_
  refine wpT_valp 7 (v := .int .i64 n) rfl rfl rfl (by go_simp) ?_
  first | dsimp only [wpT] | refine wpT_fin ?_
  try simp only [Act.put, List.setIfInBounds_toArray, List.set_cons_succ, List.set_cons_zero]
  go_upto_region 5 with fail
  refine wp_region_Z (fun v => True) 7 (.yld [0, 1, 2, 3, 4, 5] (.op 6 (.rest (.op 7 .done)))) (by kernel_rfl) (by kernel_rfl) (by kernel_rfl) (fun d _ _ _ _ h => by cases d <;> exact h) ?_
  have M1 := M0.drewN 1
  change wpZ _ _ _ _ _ _ (w.drewN 1)
  obtain ⟨w2, hw2⟩ : ∃ w2, w2 = w.drewN 1 := ⟨_, rfl⟩
  rw [← hw2] at M1 ⊢
  clear hw2
  refine wpZ_yld ?_
  refine wpYJd_op 20 (.slice (some ⟨g, 0, none⟩) n c1) rfl rfl rfl (fun w1 h => by go_simp) ?_
  refine wpYJd_op 21 (.int .i64 i) rfl rfl rfl (fun w1 h => by go_simp) ?_
  refine wpYJd_op 22 (.slice (some ⟨g, 0, none⟩) i c1) rfl rfl rfl (fun w1 h => by go_simp) ?_
  refine wpYJd_op 23 (.slice (some ⟨g, 0, none⟩) n c1) rfl rfl rfl (fun w1 h => by go_simp) ?_
  refine wpYJd_op 24 (.int .i64 i1) rfl rfl rfl (fun w1 h => by go_simp) ?_
  try simp only [Act.put, List.setIfInBounds_toArray, List.set_cons_succ, List.set_cons_zero]
  refine wpYJd_op 25 (.slice (some AD) m c2) rfl rfl rfl (fun w1 h => by have h := HAE.out; have h2 := HM.out; have h3 := HC2.out; go_simp) ?_
  show wpZ _ _ _ _ _ _ _
  try simp only [Act.put, List.setIfInBounds_toArray, List.set_cons_succ, List.set_cons_zero]
  refine wpZ_of (by trivial) ?_
  refine wpT_gcut (m := m) (j := i1) (i0 := i) (c := c2) (ad := AD) 26 M1 elt_itm 0 rfl rfl rfl rfl rfl (by go_simp) (by go_simp) hcp HSZ.out HON.out hjm hij HAD.out (fun wc MC => ?_)
  dsimp only [List.set] at MC
  obtain ⟨cu2, hcu2⟩ : ∃ c, c = (cur.toList.take (i * 2) ++ ((cur.toList.drop (i1 * 2)).take (m * 2)) ++ cur.toList.drop (i * 2 + m * 2)).toArray := ⟨_, rfl⟩
  rw [← hcu2] at MC
  have HCU := hid hcu2
  clear hcu2
  refine wpZ_to ?_
  try simp only [Act.put, List.setIfInBounds_toArray, List.set_cons_succ, List.set_cons_zero]
  refine wpZ_rest (by trivial) ?_
  refine wpT_valp 0 (v := .slice (some ⟨g, 0, none⟩) (i + m) c1) rfl rfl rfl (by go_simp) ?_
  first | dsimp only [wpT] | refine wpT_fin ?_
  try simp only [Act.put, List.setIfInBounds_toArray, List.set_cons_succ, List.set_cons_zero]
  go_upto_region 6 with fail
  have HFIT := hid (show (i + m) * 2 + 1 * 2 ≤ cu2.size by have h := HCU.out; have h2 := HSZ.out; rw [h]; simp; omega)
  refine wp_region_lin (.op 0 (.op 1 (.op 2 (.op 3 (.op 4 (.op 5 .done)))))) (by rfl) ?_
  refine wpT_valp 27 (v := .slice (some ⟨g, 0, none⟩) (i + m) c1) rfl rfl rfl (by go_simp) ?_
  refine wpT_valp 28 (v := .slice (some ⟨g, 0, none⟩) (i + m) c1) rfl rfl rfl (by go_simp) ?_
  refine wpT_valp 29 (v := .int .i64 (i + m)) rfl rfl rfl (by go_simp) ?_
  refine wpT_valp 30 (v := .int .i64 n) rfl rfl rfl (by go_simp) ?_
  try simp only [Act.put, List.setIfInBounds_toArray, List.set_cons_succ, List.set_cons_zero]
  refine wpT_valp 31 (v := .slice (some ⟨g, (i + m) * 2, none⟩) 1 c3) rfl rfl rfl (by have h := HC1.out; go_simp) ?_
  refine wpT_gclear (g := g) (off := (i + m) * 2) (m := 1) (c := c3) MC elt_itm 0 rfl rfl rfl rfl rfl (by go_simp) HFIT.out (by omega) (fun wd MD => ?_)
  dsimp only [List.set] at MD
  obtain ⟨cu3, hcu3⟩ : ∃ c, c = (cu2.toList.take ((i + m) * 2) ++ (Builtin.zeroCells (Value.agg (ITR 0 (.slice none 0 0))).cells 1).toList ++ cu2.toList.drop ((i + m) * 2 + 1 * 2)).toArray := ⟨_, rfl⟩
  rw [← hcu3] at MD
  have HC3 := hid hcu3
  clear hcu3
  first | dsimp only [wpT] | refine wpT_fin ?_
  try simp only [Act.put, List.setIfInBounds_toArray, List.set_cons_succ, List.set_cons_zero]
  go_upto_region 7 with fail
  refine wp_region_lin (.op 0 (.op 1 .done)) (by rfl) ?_
  refine wpT_valp 32 (v := .slice (some ⟨g, 0, none⟩) (i + m) c1) rfl rfl rfl (by go_simp) ?_
  refine wpT_valp 6 (v := .slice (some ⟨g, 0, none⟩) (i + m) c1) rfl rfl rfl (by go_simp) ?_
  first | dsimp only [wpT] | refine wpT_fin ?_
  try simp only [Act.put, List.setIfInBounds_toArray, List.set_cons_succ, List.set_cons_zero]
  go_wp2_with fail
  go_ret
  exact ⟨_, rfl, HFIN.out _ _ _ HCU.out HC3.out MD, MD.fr.mono (fun x _ h => by rw [h]), HOB.out⟩
theorem lnew_bad (w : World) (n : Int) (hn : ¬ (1 ≤ n ∧ n ≤ 4096)) : Calls Try.prog 23 #[.int .i64 n] w fun e w' => e = .returned (.pointer none) ∧ Below w.heap.size w w' := by
  by_cases h : n < 1
  · clear hn
    have M0 := Mm.start no w
    go_enter Try.func23, Try.ntmps23
    go_upto_region 1 with fail
    refine wp_region_lin (.op 0 (.op 1 (.op 2 (.op 3 (.op 4 (.op 5 .done)))))) (by rfl) ?_
    refine wpT_valp 3 (v := .int .i64 n) rfl rfl rfl (by go_simp) ?_
    refine wpT_valp 4 (v := .bool true) rfl rfl rfl (by go_simp) ?_
    refine wpT_valp 5 (v := .bool true) rfl rfl rfl (by go_simp) ?_
    refine wpT_unx 6 rfl rfl (by simp [Region.wanted, yielded, Act.put]) ?_
    try simp only [Act.put, List.setIfInBounds_toArray, List.set_cons_succ, List.set_cons_zero]
    refine wpT_unx 7 rfl rfl (by simp [Region.wanted, yielded, Act.put]) ?_
    try simp only [Act.put, List.setIfInBounds_toArray, List.set_cons_succ, List.set_cons_zero]
    refine wpT_valp 8 (v := .bool true) rfl rfl rfl (by go_simp) ?_
    first | dsimp only [wpT] | refine wpT_fin ?_
    try simp only [Act.put, List.setIfInBounds_toArray, List.set_cons_succ, List.set_cons_zero]
    go_upto_region 2 with fail
    refine wp_region_lin (.op 0 .done) (by rfl) ?_
    refine wpT_valp 2 (v := .pointer none) rfl rfl rfl (by go_simp) ?_
    first | dsimp only [wpT] | refine wpT_fin ?_
    try simp only [Act.put, List.setIfInBounds_toArray, List.set_cons_succ, List.set_cons_zero]
    go_wp2_with fail
    go_ret
    exact ⟨rfl, M0.end_⟩
  · have h2 : 4096 < n := by omega
    clear hn
    have M0 := Mm.start no w
    go_enter Try.func23, Try.ntmps23
    go_upto_region 1 with fail
    refine wp_region_lin (.op 0 (.op 1 (.op 2 (.op 3 (.op 4 (.op 5 .done)))))) (by rfl) ?_
    refine wpT_valp 3 (v := .int .i64 n) rfl rfl rfl (by go_simp) ?_
    refine wpT_valp 4 (v := .bool false) rfl rfl rfl (by go_simp) ?_
    refine wpT_valp 5 (v := .bool false) rfl rfl rfl (by go_simp) ?_
    refine wpT_valp 6 (v := .int .i64 n) rfl rfl (by simp [Region.wanted, yielded, Act.put]) (by go_simp) ?_
    try simp only [Act.put, List.setIfInBounds_toArray, List.set_cons_succ, List.set_cons_zero]
    refine wpT_valp 7 (v := .bool true) rfl rfl (by simp [Region.wanted, yielded, Act.put]) (by go_simp) ?_
    refine wpT_valp 8 (v := .bool true) rfl rfl rfl (by go_simp) ?_
    first | dsimp only [wpT] | refine wpT_fin ?_
    try simp only [Act.put, List.setIfInBounds_toArray, List.set_cons_succ, List.set_cons_zero]
    go_upto_region 2 with fail
    refine wp_region_lin (.op 0 .done) (by rfl) ?_
    refine wpT_valp 2 (v := .pointer none) rfl rfl rfl (by go_simp) ?_
    first | dsimp only [wpT] | refine wpT_fin ?_
    try simp only [Act.put, List.setIfInBounds_toArray, List.set_cons_succ, List.set_cons_zero]
    go_wp2_with fail
    go_ret
    exact ⟨rfl, M0.end_⟩
set_option maxHeartbeats 2000000 in
theorem lnew_c (w : World) (n : Int) (h1 : 1 ≤ n) (h2 : n ≤ 4096) : Calls Try.prog 23 #[.int .i64 n] w fun e w' => ∃ b, e = .returned (.pointer (some ⟨b, 0, none⟩)) ∧ LO w' w.heap.size b n [] (.slice none 0 0) ∧ Below w.heap.size w w' := by
  have h3 : ¬ n < 1 := by omega
  have h4 : ¬ 4096 < n := by omega
  clear h1 h2
  have M0 := Mm.start no w
  go_enter Try.func23, Try.ntmps23
  go_upto_region 1 with fail
  refine wp_region_lin (.op 0 (.op 1 (.op 2 (.op 3 (.op 4 (.op 5 .done)))))) (by rfl) ?_
  refine wpT_valp 3 (v := .int .i64 n) rfl rfl rfl (by go_simp) ?_
  refine wpT_valp 4 (v := .bool false) rfl rfl rfl (by go_simp) ?_
  refine wpT_valp 5 (v := .bool false) rfl rfl rfl (by go_simp) ?_
  refine wpT_valp 6 (v := .int .i64 n) rfl rfl (by simp [Region.wanted, yielded, Act.put]) (by go_simp) ?_
  try simp only [Act.put, List.setIfInBounds_toArray, List.set_cons_succ, List.set_cons_zero]
  refine wpT_valp 7 (v := .bool false) rfl rfl (by simp [Region.wanted, yielded, Act.put]) (by go_simp) ?_
  refine wpT_valp 8 (v := .bool false) rfl rfl rfl (by go_simp) ?_
  first | dsimp only [wpT] | refine wpT_fin ?_
  try simp only [Act.put, List.setIfInBounds_toArray, List.set_cons_succ, List.set_cons_zero]
  go_upto_region 3 with fail
  refine wp_region_lin (.op 0 (.op 1 (.op 2 (.op 3 .done)))) (by rfl) ?_
  refine wpT_valp 9 (v := .int .i64 n) rfl rfl rfl (by go_simp) ?_
  refine wpT_valL 10 (v := .agg (STR n (.slice none 0 0))) rfl rfl rfl (by have q := xb_lnk1 w n; go_simp) ?_
  refine wpT_sbx' (c := STR n (.slice none 0 0)) (T := 95) 11 M0 (by decide) rfl rfl rfl (by go_simp) (fun gb wB hgb MB => ?_)
  refine wpT_valp 2 (v := .pointer (some ⟨gb, 0, none⟩)) rfl rfl rfl (by go_simp) ?_
  first | dsimp only [wpT] | refine wpT_fin ?_
  try simp only [Act.put, List.setIfInBounds_toArray, List.set_cons_succ, List.set_cons_zero]
  go_wp2_with fail
  go_ret
  exact ⟨gb, rfl, LO.new MB hgb (by simp), MB.end_⟩
set_option maxHeartbeats 2000000 in
theorem lfault_c (w : World) (B b : Nat) (room : Int) (L : List It) (v : Value) (R : LO w B b room L v) (hrm : 0 < room) (i : Int) {q : Int} (hq : (if 0 ≤ i ∧ i < (L.length : Int) then (0 : Int) else 9) = q) :
    Calls Try.prog 43 #[.pointer (some ⟨b, 0, none⟩), .int .i64 i] w fun e w' => e = .returned (.int .i64 q) ∧ Below w.heap.size w w' := by
  have HROW : Hid (∀ w', Below w.heap.size w w' → w'.rowOf b = STR room v) := hid fun w' h => (R.below h).rowOf
  obtain ⟨va, vc, hv, _⟩ := R.ao.ow.shape
  obtain ⟨m, hm⟩ : ∃ n, L.length = n := ⟨_, rfl⟩
  rw [hm] at hv hq
  subst hv
  have hr0 : ¬ room = 0 := by omega
  clear R hm
  by_cases c1 : i < 0
  · rw [if_neg (by omega)] at hq
    subst hq
    have M0 := Mm.start no w
    go_enter Try.func43, Try.ntmps43
    go_upto_region 1 with fail
    refine wp_region_lin (.op 0 (.op 1 (.op 2 (.op 3 (.op 4 (.op 5 (.op 6 (.op 7 (.op 8 (.op 9 .done)))))))))) (by rfl) ?_
    refine wpT_valp 6 (v := .pointer (some ⟨b, 0, none⟩)) rfl rfl rfl (by go_simp) ?_
    refine wpT_valp 7 (v := .bool false) rfl rfl rfl (by go_simp) ?_
    refine wpT_valp 8 (v := .bool false) rfl rfl rfl (by go_simp) ?_
    refine wpT_valp 9 (v := .pointer (some ⟨b, 0, none⟩)) rfl rfl (by simp [Region.wanted, yielded, Act.put]) (by go_simp) ?_
    try simp only [Act.put, List.setIfInBounds_toArray, List.set_cons_succ, List.set_cons_zero]
    refine wpT_valp 10 (v := .pointer (some ⟨b, 0, none⟩)) rfl rfl (by simp [Region.wanted, yielded, Act.put]) (by go_simp) ?_
    refine wpT_valp 11 (v := .pointer (some ⟨b, 0, none⟩)) rfl rfl (by simp [Region.wanted, yielded, Act.put]) (by go_simp) ?_
    refine wpT_valp 12 (v := .int .i64 room) rfl rfl (by simp [Region.wanted, yielded, Act.put]) (by have c0 := st_c0 (HROW.out _ M0.end_); go_simp) ?_
    refine wpT_valp 13 (v := .bool false) rfl rfl (by simp [Region.wanted, yielded, Act.put]) (by go_simp) ?_
    refine wpT_valp 14 (v := .bool false) rfl rfl rfl (by go_simp) ?_
    try simp only [Act.put, List.setIfInBounds_toArray, List.set_cons_succ, List.set_cons_zero]
    refine wpT_valp 5 (v := .bool false) rfl rfl rfl (by go_simp) ?_
    first | dsimp only [wpT] | refine wpT_fin ?_
    try simp only [Act.put, List.setIfInBounds_toArray, List.set_cons_succ, List.set_cons_zero]
    go_upto_region 3 with fail
    refine wp_region_lin (.op 0 (.op 1 (.op 2 (.op 3 (.op 4 (.op 5 (.op 6 (.op 7 (.op 8 (.op 9 (.op 10 (.op 11 .done)))))))))))) (by rfl) ?_
    refine wpT_valp 16 (v := .int .i64 i) rfl rfl rfl (by go_simp) ?_
    refine wpT_valp 17 (v := .bool true) rfl rfl rfl (by go_simp) ?_
    refine wpT_valp 18 (v := .bool true) rfl rfl rfl (by go_simp) ?_
    refine wpT_unx 19 rfl rfl (by simp [Region.wanted, yielded, Act.put]) ?_
    try simp only [Act.put, List.setIfInBounds_toArray, List.set_cons_succ, List.set_cons_zero]
    refine wpT_unx 20 rfl rfl (by simp [Region.wanted, yielded, Act.put]) ?_
    try simp only [Act.put, List.setIfInBounds_toArray, List.set_cons_succ, List.set_cons_zero]
    refine wpT_unx 21 rfl rfl (by simp [Region.wanted, yielded, Act.put]) ?_
    try simp only [Act.put, List.setIfInBounds_toArray, List.set_cons_succ, List.set_cons_zero]
    refine wpT_unx 22 rfl rfl (by simp [Region.wanted, yielded, Act.put]) ?_
    try simp only [Act.put, List.setIfInBounds_toArray, List.set_cons_succ, List.set_cons_zero]
    refine wpT_unx 23 rfl rfl (by simp [Region.wanted, yielded, Act.put]) ?_
    try simp only [Act.put, List.setIfInBounds_toArray, List.set_cons_succ, List.set_cons_zero]
    refine wpT_unx 24 rfl rfl (by simp [Region.wanted, yielded, Act.put]) ?_
    try simp only [Act.put, List.setIfInBounds_toArray, List.set_cons_succ, List.set_cons_zero]
    refine wpT_unx 25 rfl rfl (by simp [Region.wanted, yielded, Act.put]) ?_
    try simp only [Act.put, List.setIfInBounds_toArray, List.set_cons_succ, List.set_cons_zero]
    refine wpT_valp 26 (v := .bool true) rfl rfl rfl (by go_simp) ?_
    refine wpT_valp 15 (v := .bool true) rfl rfl rfl (by go_simp) ?_
    first | dsimp only [wpT] | refine wpT_fin ?_
    try simp only [Act.put, List.setIfInBounds_toArray, List.set_cons_succ, List.set_cons_zero]
    go_upto_region 4 with fail
    refine wp_region_lin (.op 0 .done) (by rfl) ?_
    refine wpT_valp 4 (v := .int .i64 9) rfl rfl rfl (by go_simp) ?_
    first | dsimp only [wpT] | refine wpT_fin ?_
    try simp only [Act.put, List.setIfInBounds_toArray, List.set_cons_succ, List.set_cons_zero]
    go_wp2_with fail
    go_ret
    exact ⟨rfl, M0.end_⟩
  by_cases c2 : (m : Int) ≤ i
  · rw [if_neg (by omega)] at hq
    subst hq
    have M0 := Mm.start no w
    go_enter Try.func43, Try.ntmps43
    go_upto_region 1 with fail
    refine wp_region_lin (.op 0 (.op 1 (.op 2 (.op 3 (.op 4 (.op 5 (.op 6 (.op 7 (.op 8 (.op 9 .done)))))))))) (by rfl) ?_
    refine wpT_valp 6 (v := .pointer (some ⟨b, 0, none⟩)) rfl rfl rfl (by go_simp) ?_
    refine wpT_valp 7 (v := .bool false) rfl rfl rfl (by go_simp) ?_
    refine wpT_valp 8 (v := .bool false) rfl rfl rfl (by go_simp) ?_
    refine wpT_valp 9 (v := .pointer (some ⟨b, 0, none⟩)) rfl rfl (by simp [Region.wanted, yielded, Act.put]) (by go_simp) ?_
    try simp only [Act.put, List.setIfInBounds_toArray, List.set_cons_succ, List.set_cons_zero]
    refine wpT_valp 10 (v := .pointer (some ⟨b, 0, none⟩)) rfl rfl (by simp [Region.wanted, yielded, Act.put]) (by go_simp) ?_
    refine wpT_valp 11 (v := .pointer (some ⟨b, 0, none⟩)) rfl rfl (by simp [Region.wanted, yielded, Act.put]) (by go_simp) ?_
    refine wpT_valp 12 (v := .int .i64 room) rfl rfl (by simp [Region.wanted, yielded, Act.put]) (by have c0 := st_c0 (HROW.out _ M0.end_); go_simp) ?_
    refine wpT_valp 13 (v := .bool false) rfl rfl (by simp [Region.wanted, yielded, Act.put]) (by go_simp) ?_
    refine wpT_valp 14 (v := .bool false) rfl rfl rfl (by go_simp) ?_
    try simp only [Act.put, List.setIfInBounds_toArray, List.set_cons_succ, List.set_cons_zero]
    refine wpT_valp 5 (v := .bool false) rfl rfl rfl (by go_simp) ?_
    first | dsimp only [wpT] | refine wpT_fin ?_
    try simp only [Act.put, List.setIfInBounds_toArray, List.set_cons_succ, List.set_cons_zero]
    go_upto_region 3 with fail
    refine wp_region_lin (.op 0 (.op 1 (.op 2 (.op 3 (.op 4 (.op 5 (.op 6 (.op 7 (.op 8 (.op 9 (.op 10 (.op 11 .done)))))))))))) (by rfl) ?_
    refine wpT_valp 16 (v := .int .i64 i) rfl rfl rfl (by go_simp) ?_
    refine wpT_valp 17 (v := .bool false) rfl rfl rfl (by go_simp) ?_
    refine wpT_valp 18 (v := .bool false) rfl rfl rfl (by go_simp) ?_
    refine wpT_valp 19 (v := .int .i64 i) rfl rfl (by simp [Region.wanted, yielded, Act.put]) (by go_simp) ?_
    try simp only [Act.put, List.setIfInBounds_toArray, List.set_cons_succ, List.set_cons_zero]
    refine wpT_valp 20 (v := .pointer (some ⟨b, 0, none⟩)) rfl rfl (by simp [Region.wanted, yielded, Act.put]) (by go_simp) ?_
    refine wpT_valp 21 (v := .pointer (some ⟨b, 0, none⟩)) rfl rfl (by simp [Region.wanted, yielded, Act.put]) (by go_simp) ?_
    refine wpT_valp 22 (v := .pointer (some ⟨b, 1, none⟩)) rfl rfl (by simp [Region.wanted, yielded, Act.put]) (by go_simp) ?_
    refine wpT_valp 23 (v := .slice va m vc) rfl rfl (by simp [Region.wanted, yielded, Act.put]) (by have c0 := st_c1 (HROW.out _ M0.end_); go_simp) ?_
    refine wpT_valp 24 (v := .int .i64 m) rfl rfl (by simp [Region.wanted, yielded, Act.put]) (by go_simp) ?_
    try simp only [Act.put, List.setIfInBounds_toArray, List.set_cons_succ, List.set_cons_zero]
    refine wpT_valp 25 (v := .bool true) rfl rfl (by simp [Region.wanted, yielded, Act.put]) (by go_simp) ?_
    refine wpT_valp 26 (v := .bool true) rfl rfl rfl (by go_simp) ?_
    refine wpT_valp 15 (v := .bool true) rfl rfl rfl (by go_simp) ?_
    first | dsimp only [wpT] | refine wpT_fin ?_
    try simp only [Act.put, List.setIfInBounds_toArray, List.set_cons_succ, List.set_cons_zero]
    go_upto_region 4 with fail
    refine wp_region_lin (.op 0 .done) (by rfl) ?_
    refine wpT_valp 4 (v := .int .i64 9) rfl rfl rfl (by go_simp) ?_
    first | dsimp only [wpT] | refine wpT_fin ?_
    try simp only [Act.put, List.setIfInBounds_toArray, List.set_cons_succ, List.set_cons_zero]
    go_wp2_with fail
    go_ret
    exact ⟨rfl, M0.end_⟩
  · rw [if_pos (by omega)] at hq
    subst hq
    have M0 := Mm.start no w
    go_enter Try.func43, Try.ntmps43
    go_upto_region 1 with fail
    refine wp_region_lin (.op 0 (.op 1 (.op 2 (.op 3 (.op 4 (.op 5 (.op 6 (.op 7 (.op 8 (.op 9 .done)))))))))) (by rfl) ?_
    refine wpT_valp 6 (v := .pointer (some ⟨b, 0, none⟩)) rfl rfl rfl (by go_simp) ?_
    refine wpT_valp 7 (v := .bool false) rfl rfl rfl (by go_simp) ?_
    refine wpT_valp 8 (v := .bool false) rfl rfl rfl (by go_simp) ?_
    refine wpT_valp 9 (v := .pointer (some ⟨b, 0, none⟩)) rfl rfl (by simp [Region.wanted, yielded, Act.put]) (by go_simp) ?_
    try simp only [Act.put, List.setIfInBounds_toArray, List.set_cons_succ, List.set_cons_zero]
    refine wpT_valp 10 (v := .pointer (some ⟨b, 0, none⟩)) rfl rfl (by simp [Region.wanted, yielded, Act.put]) (by go_simp) ?_
    refine wpT_valp 11 (v := .pointer (some ⟨b, 0, none⟩)) rfl rfl (by simp [Region.wanted, yielded, Act.put]) (by go_simp) ?_
    refine wpT_valp 12 (v := .int .i64 room) rfl rfl (by simp [Region.wanted, yielded, Act.put]) (by have c0 := st_c0 (HROW.out _ M0.end_); go_simp) ?_
    refine wpT_valp 13 (v := .bool false) rfl rfl (by simp [Region.wanted, yielded, Act.put]) (by go_simp) ?_
    refine wpT_valp 14 (v := .bool false) rfl rfl rfl (by go_simp) ?_
    try simp only [Act.put, List.setIfInBounds_toArray, List.set_cons_succ, List.set_cons_zero]
    refine wpT_valp 5 (v := .bool false) rfl rfl rfl (by go_simp) ?_
    first | dsimp only [wpT] | refine wpT_fin ?_
    try simp only [Act.put, List.setIfInBounds_toArray, List.set_cons_succ, List.set_cons_zero]
    go_upto_region 3 with fail
    refine wp_region_lin (.op 0 (.op 1 (.op 2 (.op 3 (.op 4 (.op 5 (.op 6 (.op 7 (.op 8 (.op 9 (.op 10 (.op 11 .done)))))))))))) (by rfl) ?_
    refine wpT_valp 16 (v := .int .i64 i) rfl rfl rfl (by go_simp) ?_
    refine wpT_valp 17 (v := .bool false) rfl rfl rfl (by go_simp) ?_
    refine wpT_valp 18 (v := .bool false) rfl rfl rfl (by go_simp) ?_
    refine wpT_valp 19 (v := .int .i64 i) rfl rfl (by simp [Region.wanted, yielded, Act.put]) (by go_simp) ?_
    try simp only [Act.put, List.setIfInBounds_toArray, List.set_cons_succ, List.set_cons_zero]
    refine wpT_valp 20 (v := .pointer (some ⟨b, 0, none⟩)) rfl rfl (by simp [Region.wanted, yielded, Act.put]) (by go_simp) ?_
    refine wpT_valp 21 (v := .pointer (some ⟨b, 0, none⟩)) rfl rfl (by simp [Region.wanted, yielded, Act.put]) (by go_simp) ?_
    refine wpT_valp 22 (v := .pointer (some ⟨b, 1, none⟩)) rfl rfl (by simp [Region.wanted, yielded, Act.put]) (by go_simp) ?_
    refine wpT_valp 23 (v := .slice va m vc) rfl rfl (by simp [Region.wanted, yielded, Act.put]) (by have c0 := st_c1 (HROW.out _ M0.end_); go_simp) ?_
    refine wpT_valp 24 (v := .int .i64 m) rfl rfl (by simp [Region.wanted, yielded, Act.put]) (by go_simp) ?_
    try simp only [Act.put, List.setIfInBounds_toArray, List.set_cons_succ, List.set_cons_zero]
    refine wpT_valp 25 (v := .bool false) rfl rfl (by simp [Region.wanted, yielded, Act.put]) (by go_simp) ?_
    refine wpT_valp 26 (v := .bool false) rfl rfl rfl (by go_simp) ?_
    refine wpT_valp 15 (v := .bool false) rfl rfl rfl (by go_simp) ?_
    first | dsimp only [wpT] | refine wpT_fin ?_
    try simp only [Act.put, List.setIfInBounds_toArray, List.set_cons_succ, List.set_cons_zero]
    go_upto_region 5 with fail
    refine wp_region_lin (.op 0 .done) (by rfl) ?_
    refine wpT_valp 4 (v := .int .i64 0) rfl rfl rfl (by go_simp) ?_
    first | dsimp only [wpT] | refine wpT_fin ?_
    try simp only [Act.put, List.setIfInBounds_toArray, List.set_cons_succ, List.set_cons_zero]
    go_wp2_with fail
    go_ret
    exact ⟨rfl, M0.end_⟩
/-- links that no call made -/
def BadL (w : World) (q : Value) : Prop := q = .pointer none ∨ ∃ b, q = .pointer (some ⟨b, 0, none⟩) ∧ w.rowOf b = STR 0 (.slice none 0 0) ∧ b < w.heap.size
theorem BadL.below {w w' : World} {q : Value} (h : BadL w q) (hb : Below w.heap.size w w') : BadL w' q := by
  rcases h with h | ⟨b, h1, h2, h3⟩
  · exact .inl h
  · exact .inr ⟨b, h1, (below_row hb h3).trans h2, Nat.lt_of_lt_of_le h3 hb.size⟩
set_option maxHeartbeats 2000000 in
theorem lfault_b (w : World) (q : Value) (hq : BadL w q) (i : Int) :
    Calls Try.prog 43 #[q, .int .i64 i] w fun e w' => e = .returned (.int .i64 1) ∧ Below w.heap.size w w' := by
  rcases hq with rfl | ⟨b, rfl, hrow, hb⟩
  ·
    have M0 := Mm.start no w
    go_enter Try.func43, Try.ntmps43
    go_upto_region 1 with fail
    refine wp_region_lin (.op 0 (.op 1 (.op 2 (.op 3 (.op 4 (.op 5 (.op 6 (.op 7 (.op 8 (.op 9 .done)))))))))) (by rfl) ?_
    refine wpT_valp 6 (v := .pointer none) rfl rfl rfl (by go_simp) ?_
    refine wpT_valp 7 (v := .bool true) rfl rfl rfl (by go_simp) ?_
    refine wpT_valp 8 (v := .bool true) rfl rfl rfl (by go_simp) ?_
    refine wpT_unx 9 rfl rfl (by simp [Region.wanted, yielded, Act.put]) ?_
    try simp only [Act.put, List.setIfInBounds_toArray, List.set_cons_succ, List.set_cons_zero]
    refine wpT_unx 10 rfl rfl (by simp [Region.wanted, yielded, Act.put]) ?_
    try simp only [Act.put, List.setIfInBounds_toArray, List.set_cons_succ, List.set_cons_zero]
    refine wpT_unx 11 rfl rfl (by simp [Region.wanted, yielded, Act.put]) ?_
    try simp only [Act.put, List.setIfInBounds_toArray, List.set_cons_succ, List.set_cons_zero]
    refine wpT_unx 12 rfl rfl (by simp [Region.wanted, yielded, Act.put]) ?_
    try simp only [Act.put, List.setIfInBounds_toArray, List.set_cons_succ, List.set_cons_zero]
    refine wpT_unx 13 rfl rfl (by simp [Region.wanted, yielded, Act.put]) ?_
    try simp only [Act.put, List.setIfInBounds_toArray, List.set_cons_succ, List.set_cons_zero]
    refine wpT_valp 14 (v := .bool true) rfl rfl rfl (by go_simp) ?_
    refine wpT_valp 5 (v := .bool true) rfl rfl rfl (by go_simp) ?_
    first | dsimp only [wpT] | refine wpT_fin ?_
    try simp only [Act.put, List.setIfInBounds_toArray, List.set_cons_succ, List.set_cons_zero]
    go_upto_region 2 with fail
    refine wp_region_lin (.op 0 .done) (by rfl) ?_
    refine wpT_valp 4 (v := .int .i64 1) rfl rfl rfl (by go_simp) ?_
    first | dsimp only [wpT] | refine wpT_fin ?_
    try simp only [Act.put, List.setIfInBounds_toArray, List.set_cons_succ, List.set_cons_zero]
    go_wp2_with fail
    go_ret
    exact ⟨rfl, M0.end_⟩
  · have HROW : Hid (∀ w', Below w.heap.size w w' → w'.rowOf b = STR 0 (.slice none 0 0)) := hid fun w' h => (below_row h hb).trans hrow
    clear hrow
    have M0 := Mm.start no w
    go_enter Try.func43, Try.ntmps43
    go_upto_region 1 with fail
    refine wp_region_lin (.op 0 (.op 1 (.op 2 (.op 3 (.op 4 (.op 5 (.op 6 (.op 7 (.op 8 (.op 9 .done)))))))))) (by rfl) ?_
    refine wpT_valp 6 (v := .pointer (some ⟨b, 0, none⟩)) rfl rfl rfl (by go_simp) ?_
    refine wpT_valp 7 (v := .bool false) rfl rfl rfl (by go_simp) ?_
    refine wpT_valp 8 (v := .bool false) rfl rfl rfl (by go_simp) ?_
    refine wpT_valp 9 (v := .pointer (some ⟨b, 0, none⟩)) rfl rfl (by simp [Region.wanted, yielded, Act.put]) (by go_simp) ?_
    try simp only [Act.put, List.setIfInBounds_toArray, List.set_cons_succ, List.set_cons_zero]
    refine wpT_valp 10 (v := .pointer (some ⟨b, 0, none⟩)) rfl rfl (by simp [Region.wanted, yielded, Act.put]) (by go_simp) ?_
    refine wpT_valp 11 (v := .pointer (some ⟨b, 0, none⟩)) rfl rfl (by simp [Region.wanted, yielded, Act.put]) (by go_simp) ?_
    refine wpT_valp 12 (v := .int .i64 0) rfl rfl (by simp [Region.wanted, yielded, Act.put]) (by have c0 := st_c0 (HROW.out _ M0.end_); go_simp) ?_
    refine wpT_valp 13 (v := .bool true) rfl rfl (by simp [Region.wanted, yielded, Act.put]) (by go_simp) ?_
    refine wpT_valp 14 (v := .bool true) rfl rfl rfl (by go_simp) ?_
    try simp only [Act.put, List.setIfInBounds_toArray, List.set_cons_succ, List.set_cons_zero]
    refine wpT_valp 5 (v := .bool true) rfl rfl rfl (by go_simp) ?_
    first | dsimp only [wpT] | refine wpT_fin ?_
    try simp only [Act.put, List.setIfInBounds_toArray, List.set_cons_succ, List.set_cons_zero]
    go_upto_region 2 with fail
    refine wp_region_lin (.op 0 .done) (by rfl) ?_
    refine wpT_valp 4 (v := .int .i64 1) rfl rfl rfl (by go_simp) ?_
    first | dsimp only [wpT] | refine wpT_fin ?_
    try simp only [Act.put, List.setIfInBounds_toArray, List.set_cons_succ, List.set_cons_zero]
    go_wp2_with fail
    go_ret
    exact ⟨rfl, M0.end_⟩
end Go.Proofs.Ytojkcbhmhfjioaa
