/-
  Walk of package aead: Tag, Seal, Open; own work.
-/
import Derived.Test.YtbigmnhjnjeeaaaDoorAea1
set_option linter.unusedSimpArgs false
set_option linter.unusedVariables false
namespace Go.Proofs.YtbigmnhjnjeeaaaDoor
open Go.RowKit
/-- bytes in memory that has come since base -/
def BN (w : World) (base : Nat) (v : Value) (l : List (BitVec 8)) : Prop := BS w v l ∧ ∀ g, v.ownBlock = some g → base ≤ g ∧ g < w.heap.size
theorem OP.bn {w : World} {base : Nat} {v : Value} {l : List (BitVec 8)} (h : OP w base v l) : BN w base v l := by
  refine ⟨h.bs, fun g hg => ?_⟩
  rcases h with ⟨rfl, _⟩ | ⟨g', cur, rfl, h1, h2, _⟩
  · cases hg
  · have e : g' = g := Option.some.inj hg
    subst e
    exact ⟨h1, (Array.getElem?_eq_some_iff.1 h2).1⟩
theorem OB.bn {w : World} {base : Nat} {v : Value} {l : List (BitVec 8)} (h : OB w base v l) : BN w base v l := ⟨h.bs, h.lt⟩
theorem BN.nil (w : World) (base : Nat) : BN w base (.slice none 0 0) [] := (OB.nil w base).bn
theorem BN.mono {w : World} {base b' : Nat} {v : Value} {l : List (BitVec 8)} (h : BN w base v l) (hb : b' ≤ base) : BN w b' v l := ⟨h.1, fun g hg => ⟨Nat.le_trans hb (h.2 g hg).1, (h.2 g hg).2⟩⟩
theorem BN.sf {w w' : World} {base B : Nat} {v : Value} {l : List (BitVec 8)} (h : BN w base v l) (k : Sf B w w') : BN w' base v l := ⟨SV.soft h.1 k.2, fun g hg => ⟨(h.2 g hg).1, Nat.lt_of_lt_of_le (h.2 g hg).2 k.size⟩⟩
theorem BN.keep {w w' : World} {base : Nat} {v : Value} {l : List (BitVec 8)} (h : BN w base v l) (hs : w.heap.size ≤ w'.heap.size) (hk : ∀ g, base ≤ g → g < w.heap.size → w'.heap[g]? = w.heap[g]?) : BN w' base v l :=
  ⟨SV.keep h.1 (fun g e _ => hk g (h.2 g e).1 (h.2 g e).2), fun g hg => ⟨(h.2 g hg).1, Nat.lt_of_lt_of_le (h.2 g hg).2 hs⟩⟩
section
variable {P : Program} {ops : Array Oper} {Q : Exit → Act → World → Prop} {i : Nat} {t : Tr} {a : Act} {o : Oper} {S S' : Nat → Prop} {w0 w w5 : World} {H : List (Nat × Array Value)} {R : List (Nat × Array Value) → World → Prop}
theorem back0 : Hid (∀ H' w', Mm S w0 H' w' → Mm S w0 H' w') := hid fun _ _ M => M
theorem backT (K : Hid (∀ H' w', Mm S w0 H' w' → R H' w')) (T : Hid (∀ H' w', Mm S' w5 H' w' → Mm S w0 H' w')) : Hid (∀ H' w', Mm S' w5 H' w' → R H' w') := hid fun H' w' M => K.out H' w' (T.out H' w' M)
theorem Mm.hold (N : Mm S w0 H w5) (M : Mm S w0 H w) {v : Value} {l : List (BitVec 8)} (hx : BN w5 w.heap.size v l) : ∃ S', Mm S' w5 H w5 ∧ Hid (∀ H' w'', Mm S' w5 H' w'' → Mm S w0 H' w'') ∧ Hid (∀ H' w'', Mm S' w5 H' w'' → BN w'' w.heap.size v l) := by
  obtain ⟨S1, MR, hS1, hT1⟩ := N.rebase
  refine ⟨S1, MR, hid hT1, hid fun H' w'' N => hx.keep N.fr.size (fun g h1 h2 => N.fr.block g h2 (fun hs => ?_))⟩
  obtain ⟨p, hp, e⟩ := List.mem_map.1 (hS1 g hs)
  have := M.lt (b := p.1) (c := p.2) hp
  omega
/-- a call that answers bytes in new memory: from there on -/
theorem wpT_callN (dst : Nat) (M : Mm S w0 H w) {f : FuncId} {args : Array Value} {l : List (BitVec 8)} (V : Value → Value) (hdst : o.dst = some dst) (ho : ops[i]? = some o) (hw : Region.wanted o (yielded ops a.tmps) = true) (hrun : (execOp a.eval o).run P w = .ok (.enter f args) w)
    (hc : Calls P f args w fun e w' => ∃ v, e = .returned (V v) ∧ BN w' w.heap.size v l ∧ Below w.heap.size w w')
    (h : ∀ v w' S', Mm S' w' H w' → Hid (∀ H' w'', Mm S' w' H' w'' → Mm S w0 H' w'') → Hid (∀ H' w'', Mm S' w' H' w'' → BN w'' w.heap.size v l) → wpT P ops Q t (a.put (some dst) (V v)) w') : wpT P ops Q (.op i t) a w := by
  refine wpT_call ho hw hrun hc (fun e w' ⟨v, he, hx, hb⟩ => ⟨V v, he, ?_⟩)
  rw [hdst]
  obtain ⟨S1, MR, hT, hK⟩ := (M.below hb).hold M hx
  exact h v w' S1 MR hT hK
end
theorem of_v {w0 w : World} {k n A B : List (BitVec 8)} (hA : A = Sh.derive k Ad.hideB) (hB : B = Sh.derive k Ad.proveB) (hT : KT w0 ∧ 0 < w0.heap.size) (hb : Below w0.heap.size w0 w) (hk : k.length = 32) (hn : n.length = 12) :
    Calls Tryd.prog 25 #[.agg (cs U8 k), .agg (cs U8 n)] w fun e w' => e = .returned (.agg (cs U8 (A ++ (B ++ n)))) ∧ Below w.heap.size w w' := by
  rw [hA, hB]; exact of_c w k n ⟨hT.1.below hb hT.2, Nat.lt_of_lt_of_le hT.2 hb.size⟩ hk hn
theorem tag_v {w0 w : World} {A B n o h E : List (BitVec 8)} {vo vh : Value} (hE : E = (Sh.mac B (Ad.le8 o.length ++ o ++ n ++ h)).take 16) (hT : KT w0 ∧ 0 < w0.heap.size) (hb : Below w0.heap.size w0 w) (hA : A.length = 32) (hB : B.length = 32) (hn : n.length = 12) (hvo : BS w vo o) (hvh : BS w vh h) (hol : o.length ≤ 70000) (hhl : h.length ≤ 70000) :
    Calls Tryd.prog 27 #[.agg (cs U8 (A ++ (B ++ n))), vo, vh] w fun e w' => e = .returned (.agg (cs U8 E)) ∧ Below w.heap.size w w' := by
  rw [hE]; exact tag_c w A B n o h vo vh ⟨hT.1.below hb hT.2, Nat.lt_of_lt_of_le hT.2 hb.size⟩ hA hB hn hvo hvh hol hhl
theorem turn_v {w : World} {A B n b X : List (BitVec 8)} {vb : Value} (hX : X = Ch.xr A n 0#32 b) (hA : A.length = 32) (hB : B.length = 32) (hn : n.length = 12) (hvb : BS w vb b) (hb : b.length ≤ 65536) :
    Calls Tryd.prog 26 #[.agg (cs U8 (A ++ (B ++ n))), vb] w fun e w' => ∃ v, e = .returned v ∧ BN w' w.heap.size v X ∧ Below w.heap.size w w' := by
  rw [hX]; exact (turn_c w A B n b vb hA hB hn hvb hb).mono fun e w' ⟨v, h1, h2, h3⟩ => ⟨v, h1, h2.bn, h3⟩
theorem turn_o {w : World} {A B n b X : List (BitVec 8)} {vb : Value} (hX : X = Ch.xr A n 0#32 b) (hA : A.length = 32) (hB : B.length = 32) (hn : n.length = 12) (hvb : BS w vb b) (hb : b.length ≤ 65536) {L : Nat} (hL : X.length = L) :
    Calls Tryd.prog 26 #[.agg (cs U8 (A ++ (B ++ n))), vb] w fun e w' => ∃ v, e = .returned v ∧ (∃ a, v = .slice a L L ∧ (a = none → L = 0) ∧ BN w' w.heap.size v X) ∧ Below w.heap.size w w' := by
  rw [hX]
  refine (turn_c w A B n b vb hA hB hn hvb hb).mono fun e w' ⟨v, h1, h2, h3⟩ => ⟨v, h1, ?_, h3⟩
  rw [hX] at hL
  have h4 := h2.bn
  obtain ⟨a, ha⟩ := h2.shape
  rw [hL] at ha
  subst ha
  refine ⟨a, rfl, fun e => ?_, h4⟩
  subst e
  rcases h2 with ⟨e, _⟩ | ⟨g, cur, e, _⟩
  · injection e
  · cases e
theorem equal_v {w : World} {v1 v2 : Value} {a b : List (BitVec 8)} {r : Bool} (hr : (a == b) = r) (h1 : BS w v1 a) (h2 : BS w v2 b) :
    Calls Tryd.prog 28 #[v1, v2] w fun e w' => e = .returned (.bool r) ∧ Below w.heap.size w w' := by
  rw [← hr]; exact equal_any w v1 v2 a b h1 h2
attribute [local irreducible] Ch.xr
set_option maxRecDepth 100000 in
set_option maxHeartbeats 8000000 in
theorem Tag_c (w : World) (k n o h : List (BitVec 8)) (vo vh : Value) (hT : KT w ∧ 0 < w.heap.size) (hk : k.length = 32) (hn : n.length = 12) (hvo : BS w vo o) (hvh : BS w vh h) (hol : o.length ≤ 65520) (hhl : h.length ≤ 65520) :
    Calls Tryd.prog 23 #[.agg (cs U8 k), .agg (cs U8 n), vo, vh] w fun e w' => e = .returned (.tuple #[.agg (cs U8 (Ad.tag k n o h)), .int .i64 0]) ∧ Below w.heap.size w w' := by
  obtain ⟨A, eA⟩ : ∃ A, A = Sh.derive k Ad.hideB := ⟨_, rfl⟩
  obtain ⟨B, eB⟩ : ∃ B, B = Sh.derive k Ad.proveB := ⟨_, rfl⟩
  have hA : A.length = 32 := by rw [eA]; exact derive_len ..
  have hB : B.length = 32 := by rw [eB]; exact derive_len ..
  have HA := hid eA
  have HB := hid eB
  have HT := hid hT
  obtain ⟨E, eE⟩ : ∃ E, E = Ad.tag k n o h := ⟨_, rfl⟩
  have hE : E.length = 16 := by rw [eE]; exact tag_len ..
  rw [← eE]
  have HE := hid (show E = (Sh.mac B (Ad.le8 o.length ++ o ++ n ++ h)).take 16 by rw [eE, eB]; rfl)
  obtain ⟨AO, co, rfl, hco⟩ := hvo.shape
  obtain ⟨AH, ch, rfl, hch⟩ := hvh.shape
  have HVO := hid hvo
  have HVH := hid hvh
  have q1 : ¬ (65520 : Int) < (o.length : Int) := by omega
  have q2 : ¬ (65520 : Int) < (h.length : Int) := by omega
  clear eA eB eE hT hvo hvh
  have M0 := Mm.start no w
  go_enter Tryd.func23, Tryd.ntmps23
  have M2 := (((M0.alloc (cs U8 k) 23 (by decide)).alloc (cs U8 n) 29 (by decide)).alloc (cs U8 (zs 16)) 40 (by decide))
  try simp only [World.size_alloc] at M2
  go_upto_region 1 with fail
  obtain ⟨w1, hw1⟩ : ∃ w1, w1 = (((w.alloc (.cells (cs U8 k) 23)).alloc (.cells (cs U8 n) 29)).alloc (.cells (cs U8 (zs 16)) 40)) := ⟨_, rfl⟩
  rw [← hw1] at M2 ⊢
  clear hw1
  refine wp_region_lin (.op 0 (.op 1 (.op 2 (.op 3 (.op 4 (.op 5 (.op 6 (.op 7 .done)))))))) (by rfl) ?_
  refine wpT_valp 10 (v := .slice AO o.length co) rfl rfl rfl (by go_simp) ?_
  refine wpT_valp 11 (v := .int .i64 o.length) rfl rfl rfl (by go_simp) ?_
  refine wpT_valp 12 (v := .bool false) rfl rfl rfl (by go_simp) ?_
  refine wpT_valp 13 (v := .bool false) rfl rfl rfl (by go_simp) ?_
  try simp only [Act.put, List.setIfInBounds_toArray, List.set_cons_succ, List.set_cons_zero]
  refine wpT_valp 14 (v := .slice AH h.length ch) rfl rfl (by simp [Region.wanted, yielded, Act.put]) (by go_simp) ?_
  refine wpT_valp 15 (v := .int .i64 h.length) rfl rfl (by simp [Region.wanted, yielded, Act.put]) (by go_simp) ?_
  refine wpT_valp 16 (v := .bool false) rfl rfl (by simp [Region.wanted, yielded, Act.put]) (by go_simp) ?_
  refine wpT_valp 17 (v := .bool false) rfl rfl rfl (by go_simp) ?_
  dsimp only [wpT]
  try simp only [Act.put, List.setIfInBounds_toArray, List.set_cons_succ, List.set_cons_zero]
  go_upto_region 3 with fail
  refine wp_region_lin (.op 0 (.op 1 (.op 2 (.op 3 (.op 4 (.op 5 (.op 6 (.op 7 .done)))))))) (by rfl) ?_
  refine wpT_ld0 19 Tryd.underlying23 rfl inf_key (w.heap.size) (cs U8 k) rfl rfl rfl (by go_simp) (M2.row (by simp)) (by simp [hk, hn, hA, hB, hE]) rfl ?_
  refine wpT_ld0 20 Tryd.underlying29 rfl inf_nonce (w.heap.size + 1) (cs U8 n) rfl rfl rfl (by go_simp) (M2.row (by simp)) (by simp [hk, hn, hA, hB, hE]) rfl ?_
  refine wpT_callv 21 M2 (v := .agg (cs U8 (A ++ (B ++ n)))) rfl rfl rfl (by go_simp) (of_v HA.out HB.out HT.out M2.end_ hk hn) (fun w3 M4 => ?_)
  refine wpT_valp 22 (v := .slice AO o.length co) rfl rfl rfl (by go_simp) ?_
  try simp only [Act.put, List.setIfInBounds_toArray, List.set_cons_succ, List.set_cons_zero]
  refine wpT_valp 23 (v := .slice AH h.length ch) rfl rfl rfl (by go_simp) ?_
  refine wpT_callv 24 M4 (v := .agg (cs U8 E)) rfl rfl rfl (by go_simp) (tag_v HE.out HT.out M4.end_ hA hB hn (SV.below HVO.out M4.end_) (SV.below HVH.out M4.end_) (by omega) (by omega)) (fun w5 M6 => ?_)
  refine wpT_st0 M6 0 (cs U8 E) inf_tag rfl rfl rfl rfl (by go_simp) (by go_simp) (by simp [hk, hn, hA, hB, hE]) (by simp [hk, hn, hA, hB, hE]) (by simp [go_sem]) rfl (fun w7 M8 => ?_)
  dsimp only [List.set] at M8
  refine wpT_valp 9 (v := .int .i64 0) rfl rfl rfl (by go_simp) ?_
  dsimp only [wpT]
  try simp only [Act.put, List.setIfInBounds_toArray, List.set_cons_succ, List.set_cons_zero]
  go_wp2_with fail
  have r9 := M8.row (b := w.heap.size + 1 + 1) (c := cs U8 E) (by simp)
  refine bodyPost_ret (res_two rfl (rv_row Tryd.underlying40 rfl inf_tag (w.heap.size + 1 + 1) rfl (by rw [r9]; simp [hk, hn, hA, hB, hE])) (rv_tmp _ _ rfl)) rfl ?_
  rw [r9]
  exact ⟨rfl, M8.end_⟩
set_option maxRecDepth 100000 in
set_option maxHeartbeats 8000000 in
theorem Seal_c (w : World) (k n o b : List (BitVec 8)) (vo vb : Value) (hT : KT w ∧ 0 < w.heap.size) (hk : k.length = 32) (hn : n.length = 12) (hvo : BS w vo o) (hvb : BS w vb b) (hol : o.length ≤ 65520) (hbl : b.length ≤ 65520) :
    Calls Tryd.prog 13 #[.agg (cs U8 k), .agg (cs U8 n), vo, vb] w fun e w' => ∃ v, e = .returned (.tuple #[v, .int .i64 0]) ∧ OB w' w.heap.size v (Ad.sealed k n o b) ∧ Below w.heap.size w w' := by
  obtain ⟨A, eA⟩ : ∃ A, A = Sh.derive k Ad.hideB := ⟨_, rfl⟩
  obtain ⟨B, eB⟩ : ∃ B, B = Sh.derive k Ad.proveB := ⟨_, rfl⟩
  have hA : A.length = 32 := by rw [eA]; exact derive_len ..
  have hB : B.length = 32 := by rw [eB]; exact derive_len ..
  have HA := hid eA
  have HB := hid eB
  have HT := hid hT
  obtain ⟨X, eX⟩ : ∃ X, X = Ad.hid k n b := ⟨_, rfl⟩
  have hX : X.length = b.length := by rw [eX]; exact hid_len ..
  obtain ⟨E, eE⟩ : ∃ E, E = Ad.tag k n o X := ⟨_, rfl⟩
  have hE : E.length = 16 := by rw [eE]; exact tag_len ..
  rw [show Ad.sealed k n o b = X ++ E by rw [eE, eX]; rfl]
  have HE := hid (show E = (Sh.mac B (Ad.le8 o.length ++ o ++ n ++ X)).take 16 by rw [eE, eB]; rfl)
  have HX := hid (show X = Ch.xr A n 0#32 b by rw [eX, eA]; rfl)
  obtain ⟨AO, co, rfl, hco⟩ := hvo.shape
  obtain ⟨AB, cb, rfl, hcb⟩ := hvb.shape
  have HVO := hid hvo
  have HVB := hid hvb
  have q1 : ¬ (65520 : Int) < (o.length : Int) := by omega
  have q2 : ¬ (65520 : Int) < (b.length : Int) := by omega
  clear eA eB eE eX hT hvo hvb
  have T0 := back0 (S := no) (w0 := w)
  have M0 := Mm.start no w
  go_enter Tryd.func13, Tryd.ntmps13
  have M2 := ((M0.alloc (cs U8 k) 23 (by decide)).alloc (cs U8 n) 29 (by decide))
  try simp only [World.size_alloc] at M2
  go_upto_region 1 with fail
  obtain ⟨w1, hw1⟩ : ∃ w1, w1 = ((w.alloc (.cells (cs U8 k) 23)).alloc (.cells (cs U8 n) 29)) := ⟨_, rfl⟩
  rw [← hw1] at M2 ⊢
  clear hw1
  refine wp_region_lin (.op 0 (.op 1 (.op 2 (.op 3 (.op 4 (.op 5 (.op 6 (.op 7 .done)))))))) (by rfl) ?_
  refine wpT_valp 13 (v := .slice AO o.length co) rfl rfl rfl (by go_simp) ?_
  refine wpT_valp 14 (v := .int .i64 o.length) rfl rfl rfl (by go_simp) ?_
  refine wpT_valp 15 (v := .bool false) rfl rfl rfl (by go_simp) ?_
  refine wpT_valp 16 (v := .bool false) rfl rfl rfl (by go_simp) ?_
  try simp only [Act.put, List.setIfInBounds_toArray, List.set_cons_succ, List.set_cons_zero]
  refine wpT_valp 17 (v := .slice AB b.length cb) rfl rfl (by simp [Region.wanted, yielded, Act.put]) (by go_simp) ?_
  refine wpT_valp 18 (v := .int .i64 b.length) rfl rfl (by simp [Region.wanted, yielded, Act.put]) (by go_simp) ?_
  refine wpT_valp 19 (v := .bool false) rfl rfl (by simp [Region.wanted, yielded, Act.put]) (by go_simp) ?_
  refine wpT_valp 20 (v := .bool false) rfl rfl rfl (by go_simp) ?_
  dsimp only [wpT]
  try simp only [Act.put, List.setIfInBounds_toArray, List.set_cons_succ, List.set_cons_zero]
  go_upto_region 3 with fail
  refine wp_region_lin (.op 0 (.op 1 (.op 2 (.op 3 (.op 4 .done))))) (by rfl) ?_
  refine wpT_ld0 21 Tryd.underlying23 rfl inf_key (w.heap.size) (cs U8 k) rfl rfl rfl (by go_simp) (M2.row (by simp)) (by simp [hk, hn, hA, hB, hE]) rfl ?_
  refine wpT_ld0 22 Tryd.underlying29 rfl inf_nonce (w.heap.size + 1) (cs U8 n) rfl rfl rfl (by go_simp) (M2.row (by simp)) (by simp [hk, hn, hA, hB, hE]) rfl ?_
  refine wpT_callv 23 M2 (v := .agg (cs U8 (A ++ (B ++ n)))) rfl rfl rfl (by go_simp) (of_v HA.out HB.out HT.out (T0.out _ _ M2).end_ hk hn) (fun w3 M4 => ?_)
  refine wpT_new (z := .agg (cs U8 (zs 76))) 10 M4 (by kernel_rfl) (by decide) rfl rfl rfl rfl (fun b5 w6 M7 => ?_)
  try dsimp only [Value.cells] at M7
  try simp only [Act.put, List.setIfInBounds_toArray, List.set_cons_succ, List.set_cons_zero]
  refine wpT_st0 M7 0 (cs U8 (A ++ (B ++ n))) inf_keys rfl rfl rfl rfl (by go_simp) (by go_simp) (by simp [hk, hn, hA, hB, hE]) (by simp [hk, hn, hA, hB, hE]) (by simp [go_sem]) rfl (fun w8 M9 => ?_)
  dsimp only [List.set] at M9
  dsimp only [wpT]
  try simp only [Act.put, List.setIfInBounds_toArray, List.set_cons_succ, List.set_cons_zero]
  go_upto_region 4 with fail
  refine wp_region_lin (.op 0 (.op 1 (.op 2 (.op 3 .done)))) (by rfl) ?_
  refine wpT_ld0 24 Tryd.underlying46 rfl inf_keys (b5) (cs U8 (A ++ (B ++ n))) rfl rfl rfl (by go_simp) (M9.row (by simp)) (by simp [hk, hn, hA, hB, hE]) rfl ?_
  refine wpT_valp 25 (v := .slice AB b.length cb) rfl rfl rfl (by go_simp) ?_
  refine wpT_callx 26 M9 (X := fun v w' => ∃ a, v = .slice a b.length b.length ∧ (a = none → b.length = 0) ∧ BN w' w8.heap.size v X) rfl rfl rfl (by go_simp) (turn_o HX.out hA hB hn (SV.below HVB.out (T0.out _ _ M9).end_) (by omega) hX) (fun v4 w5 h5 N5 _ => ?_)
  obtain ⟨A5, rfl, hA5, hx5⟩ := h5
  have HN5 := hid hA5
  clear hA5
  obtain ⟨S5, M5, T5, K5⟩ := N5.hold M9 hx5
  replace T0 := backT T0 T5
  refine wpT_valp 11 (v := .slice A5 b.length b.length) rfl rfl rfl (by go_simp) ?_
  dsimp only [wpT]
  try simp only [Act.put, List.setIfInBounds_toArray, List.set_cons_succ, List.set_cons_zero]
  go_upto_region 5 with fail
  refine wp_region_lin (.op 0 (.op 1 (.op 2 (.op 3 (.op 4 (.op 5 .done)))))) (by rfl) ?_
  refine wpT_ld0 27 Tryd.underlying46 rfl inf_keys (b5) (cs U8 (A ++ (B ++ n))) rfl rfl rfl (by go_simp) (M5.row (by simp)) (by simp [hk, hn, hA, hB, hE]) rfl ?_
  refine wpT_valp 28 (v := .slice AO o.length co) rfl rfl rfl (by go_simp) ?_
  refine wpT_valp 29 (v := .slice A5 b.length b.length) rfl rfl rfl (by go_simp) ?_
  refine wpT_callv 30 M5 (v := .agg (cs U8 E)) rfl rfl rfl (by go_simp) (tag_v HE.out HT.out (T0.out _ _ M5).end_ hA hB hn (SV.below HVO.out (T0.out _ _ M5).end_) (K5.out _ _ M5).1 (by omega) (by omega)) (fun w10 M11 => ?_)
  try simp only [Act.put, List.setIfInBounds_toArray, List.set_cons_succ, List.set_cons_zero]
  refine wpT_new (z := .agg (cs U8 (zs 16))) 12 M11 (by kernel_rfl) (by decide) rfl rfl rfl rfl (fun b12 w13 M14 => ?_)
  try dsimp only [Value.cells] at M14
  refine wpT_st0 M14 0 (cs U8 E) inf_tag rfl rfl rfl rfl (by go_simp) (by go_simp) (by simp [hk, hn, hA, hB, hE]) (by simp [hk, hn, hA, hB, hE]) (by simp [go_sem]) rfl (fun w15 M16 => ?_)
  dsimp only [List.set] at M16
  dsimp only [wpT]
  try simp only [Act.put, List.setIfInBounds_toArray, List.set_cons_succ, List.set_cons_zero]
  go_upto_region 6 with fail
  refine wp_region_lin (.op 0 (.op 1 (.op 2 (.op 3 (.op 4 .done))))) (by rfl) ?_
  refine wpT_valp 31 (v := .slice A5 b.length b.length) rfl rfl rfl (by go_simp) ?_
  refine wpT_valp 32 (v := .slice (some ⟨b12, 0, none⟩) 16 16) rfl rfl rfl (by go_simp) ?_
  have hz7 := (T0.out _ _ M16).size
  refine wpT_apf 33 _ _ M16 (n := b.length) (u := .slice (some ⟨b12, 0, none⟩) 16 16) X E rfl rfl rfl rfl (by go_simp) HN5.out hX (K5.out _ _ M16).1 (by go_simp) (BS.row (M16.row (b := b12) (c := cs U8 E) (by simp)) hE (by unfold maxLen; decide)) (by omega) (by omega) (fun v7 w7 O7 M7 _ => ?_)
  have O7 := hid (OB.mono O7 hz7)
  refine wpT_valp 8 (v := v7) rfl rfl rfl (by go_simp) ?_
  try simp only [Act.put, List.setIfInBounds_toArray, List.set_cons_succ, List.set_cons_zero]
  refine wpT_valp 9 (v := .int .i64 0) rfl rfl rfl (by go_simp) ?_
  dsimp only [wpT]
  try simp only [Act.put, List.setIfInBounds_toArray, List.set_cons_succ, List.set_cons_zero]
  go_wp2_with fail
  refine bodyPost_ret (res_two rfl (rv_tmp _ _ rfl) (rv_tmp _ _ rfl)) rfl ?_
  exact ⟨v7, rfl, O7.out, (T0.out _ _ M7).end_⟩
set_option maxRecDepth 100000 in
set_option maxHeartbeats 8000000 in
theorem Open_short (w : World) (k n o c : List (BitVec 8)) (vo vc : Value) (hk : k.length = 32) (hn : n.length = 12) (hvo : BS w vo o) (hvc : BS w vc c) (hc : c.length < 16) :
    Calls Tryd.prog 14 #[.agg (cs U8 k), .agg (cs U8 n), vo, vc] w fun e w' => e = .returned (.tuple #[.slice none 0 0, .int .i64 4]) ∧ Below w.heap.size w w' := by
  obtain ⟨AC, cc, rfl, hcc⟩ := hvc.shape
  have q0 : (c.length : Int) < 16 := by omega
  have HI := hid (show IntKind.i64.wrap ((c.length : Int) - 16) = (c.length : Int) - 16 from i64m _ (by omega) (by omega))
  have q1 : (c.length : Int) - 16 < 0 := by omega
  clear hvc hvo
  have M0 := Mm.start no w
  go_enter Tryd.func14, Tryd.ntmps14
  have M2 := ((M0.alloc (cs U8 k) 23 (by decide)).alloc (cs U8 n) 29 (by decide))
  try simp only [World.size_alloc] at M2
  go_upto_region 1 with fail
  obtain ⟨w1, hw1⟩ : ∃ w1, w1 = ((w.alloc (.cells (cs U8 k) 23)).alloc (.cells (cs U8 n) 29)) := ⟨_, rfl⟩
  rw [← hw1] at M2 ⊢
  clear hw1
  refine wp_region_lin (.op 0 (.op 1 (.op 2 (.op 3 .done)))) (by rfl) ?_
  refine wpT_valp 13 (v := .slice AC c.length cc) rfl rfl rfl (by go_simp) ?_
  refine wpT_valp 14 (v := .int .i64 c.length) rfl rfl rfl (by go_simp) ?_
  refine wpT_valp 15 (v := .int .i64 (c.length - 16)) rfl rfl rfl (by have h := HI.out; go_simp) ?_
  refine wpT_valp 10 (v := .int .i64 (c.length - 16)) rfl rfl rfl (by go_simp) ?_
  dsimp only [wpT]
  try simp only [Act.put, List.setIfInBounds_toArray, List.set_cons_succ, List.set_cons_zero]
  go_upto_region 2 with fail
  refine wp_region_lin (.op 0 (.op 1 (.op 2 .done))) (by rfl) ?_
  refine wpT_valp 17 (v := .int .i64 (c.length - 16)) rfl rfl rfl (by go_simp) ?_
  refine wpT_valp 18 (v := .bool true) rfl rfl rfl (by go_simp) ?_
  refine wpT_valp 16 (v := .bool true) rfl rfl rfl (by go_simp) ?_
  dsimp only [wpT]
  try simp only [Act.put, List.setIfInBounds_toArray, List.set_cons_succ, List.set_cons_zero]
  go_upto_region 3 with fail
  refine wp_region_lin (.op 0 (.op 1 .done)) (by rfl) ?_
  refine wpT_valp 8 (v := (.slice none 0 0)) rfl rfl rfl (by go_simp) ?_
  refine wpT_valp 9 (v := .int .i64 4) rfl rfl rfl (by go_simp) ?_
  dsimp only [wpT]
  try simp only [Act.put, List.setIfInBounds_toArray, List.set_cons_succ, List.set_cons_zero]
  go_wp2_with fail
  refine bodyPost_ret (res_two rfl (rv_tmp _ _ rfl) (rv_tmp _ _ rfl)) rfl ?_
  exact ⟨rfl, M2.end_⟩
set_option maxRecDepth 100000 in
set_option maxHeartbeats 8000000 in
theorem Open_c (w : World) (k n o c : List (BitVec 8)) (vo vc : Value) (r : Bool) (hT : KT w ∧ 0 < w.heap.size) (hk : k.length = 32) (hn : n.length = 12) (hvo : BS w vo o) (hvc : BS w vc c) (hol : o.length ≤ 65520) (hc : 16 ≤ c.length) (hcl : c.length ≤ 65536)
    (hr : (Ad.tag k n o (c.take (c.length - 16)) == c.drop (c.length - 16)) = r) :
    Calls Tryd.prog 14 #[.agg (cs U8 k), .agg (cs U8 n), vo, vc] w fun e w' => ∃ v, e = .returned (.tuple #[v, .int .i64 (if r then 0 else 6)]) ∧ BN w' w.heap.size v (if r then Ad.hid k n (c.take (c.length - 16)) else []) ∧ Below w.heap.size w w' := by
  obtain ⟨A, eA⟩ : ∃ A, A = Sh.derive k Ad.hideB := ⟨_, rfl⟩
  obtain ⟨B, eB⟩ : ∃ B, B = Sh.derive k Ad.proveB := ⟨_, rfl⟩
  have hA : A.length = 32 := by rw [eA]; exact derive_len ..
  have hB : B.length = 32 := by rw [eB]; exact derive_len ..
  have HA := hid eA
  have HB := hid eB
  have HT := hid hT
  obtain ⟨C, hC⟩ : ∃ C, C = c.length := ⟨_, rfl⟩
  obtain ⟨e, he⟩ : ∃ e, e = c.length - 16 := ⟨_, rfl⟩
  rw [← he] at hr ⊢
  have heC : e + 16 = C := by omega
  obtain ⟨b, hb⟩ : ∃ b, b = c.take e := ⟨_, rfl⟩
  have hbl : b.length = e := by rw [hb]; simp; omega
  rw [← hb] at hr ⊢
  obtain ⟨X, eX⟩ : ∃ X, X = Ad.hid k n b := ⟨_, rfl⟩
  rw [← eX]
  obtain ⟨E, eE⟩ : ∃ E, E = Ad.tag k n o b := ⟨_, rfl⟩
  have hE : E.length = 16 := by rw [eE]; exact tag_len ..
  rw [← eE] at hr
  have HE := hid (show E = (Sh.mac B (Ad.le8 o.length ++ o ++ n ++ b)).take 16 by rw [eE, eB]; rfl)
  have HX := hid (show X = Ch.xr A n 0#32 b by rw [eX, eA]; rfl)
  have HR := hid hr
  obtain ⟨AO, co, rfl, hco⟩ := hvo.shape
  obtain ⟨ba, oa, cb, rfl, hcb, -⟩ := hvc.open (by intro e; rw [e] at hc; simp at hc)
  have HVB : Hid (BS w (.slice (some ⟨ba, oa, none⟩) e cb) b) := hid (by
    have := BS.head hvc e cb (by omega) (by omega) (by omega)
    rw [hb]; exact this)
  have HVD : Hid (BS w (.slice (some ⟨ba, oa + e, none⟩) (c.length - e) (cb - e)) (c.drop e)) := hid (hvc.tail e (by omega) _ (fun _ => rfl))
  rw [← hC] at hcb HVD ⊢
  have HVO := hid hvo
  have hne : ¬ cb = e := by omega
  have HI := hid (show IntKind.i64.wrap ((C : Int) - 16) = (e : Int) by rw [i64m _ (by omega) (by omega)]; omega)
  have q0 : ¬ (e : Int) < 0 := by omega
  have q1 : ¬ (65520 : Int) < (o.length : Int) := by omega
  have q2 : ¬ (65520 : Int) < (e : Int) := by omega
  have heb : e ≤ cb := by omega
  have hec : e ≤ C := by omega
  have hl : b.length ≤ 65520 := by omega
  obtain ⟨D, hD⟩ : ∃ D, D = c.drop e := ⟨_, rfl⟩
  rw [← hD] at HR HVD
  clear eA eB eE eX hT hvo hvc hr hb hC he hbl hD hcl hc
  have M0 := Mm.start no w
  go_enter Tryd.func14, Tryd.ntmps14
  have M2 := ((M0.alloc (cs U8 k) 23 (by decide)).alloc (cs U8 n) 29 (by decide))
  try simp only [World.size_alloc] at M2
  go_upto_region 1 with fail
  obtain ⟨w1, hw1⟩ : ∃ w1, w1 = ((w.alloc (.cells (cs U8 k) 23)).alloc (.cells (cs U8 n) 29)) := ⟨_, rfl⟩
  rw [← hw1] at M2 ⊢
  clear hw1
  refine wp_region_lin (.op 0 (.op 1 (.op 2 (.op 3 .done)))) (by rfl) ?_
  refine wpT_valp 13 (v := .slice (some ⟨ba, oa, none⟩) C cb) rfl rfl rfl (by go_simp) ?_
  refine wpT_valp 14 (v := .int .i64 C) rfl rfl rfl (by go_simp) ?_
  refine wpT_valp 15 (v := .int .i64 e) rfl rfl rfl (by have h := HI.out; go_simp) ?_
  refine wpT_valp 10 (v := .int .i64 e) rfl rfl rfl (by go_simp) ?_
  dsimp only [wpT]
  try simp only [Act.put, List.setIfInBounds_toArray, List.set_cons_succ, List.set_cons_zero]
  go_upto_region 2 with fail
  refine wp_region_lin (.op 0 (.op 1 (.op 2 .done))) (by rfl) ?_
  refine wpT_valp 17 (v := .int .i64 e) rfl rfl rfl (by go_simp) ?_
  refine wpT_valp 18 (v := .bool false) rfl rfl rfl (by go_simp) ?_
  refine wpT_valp 16 (v := .bool false) rfl rfl rfl (by go_simp) ?_
  dsimp only [wpT]
  try simp only [Act.put, List.setIfInBounds_toArray, List.set_cons_succ, List.set_cons_zero]
  go_upto_region 4 with fail
  refine wp_region_lin (.op 0 (.op 1 (.op 2 (.op 3 (.op 4 (.op 5 (.op 6 (.op 7 .done)))))))) (by rfl) ?_
  refine wpT_valp 20 (v := .slice AO o.length co) rfl rfl rfl (by go_simp) ?_
  refine wpT_valp 21 (v := .int .i64 o.length) rfl rfl rfl (by go_simp) ?_
  refine wpT_valp 22 (v := .bool false) rfl rfl rfl (by go_simp) ?_
  refine wpT_valp 23 (v := .bool false) rfl rfl rfl (by go_simp) ?_
  try simp only [Act.put, List.setIfInBounds_toArray, List.set_cons_succ, List.set_cons_zero]
  refine wpT_valp 24 (v := .int .i64 e) rfl rfl (by simp [Region.wanted, yielded, Act.put]) (by go_simp) ?_
  refine wpT_valp 25 (v := .bool false) rfl rfl (by simp [Region.wanted, yielded, Act.put]) (by go_simp) ?_
  refine wpT_valp 26 (v := .bool false) rfl rfl rfl (by go_simp) ?_
  refine wpT_valp 19 (v := .bool false) rfl rfl rfl (by go_simp) ?_
  dsimp only [wpT]
  try simp only [Act.put, List.setIfInBounds_toArray, List.set_cons_succ, List.set_cons_zero]
  go_upto_region 6 with fail
  refine wp_region_lin (.op 0 (.op 1 (.op 2 (.op 3 (.op 4 .done))))) (by rfl) ?_
  refine wpT_ld0 27 Tryd.underlying23 rfl inf_key (w.heap.size) (cs U8 k) rfl rfl rfl (by go_simp) (M2.row (by simp)) (by simp [hk, hn, hA, hB, hE]) rfl ?_
  refine wpT_ld0 28 Tryd.underlying29 rfl inf_nonce (w.heap.size + 1) (cs U8 n) rfl rfl rfl (by go_simp) (M2.row (by simp)) (by simp [hk, hn, hA, hB, hE]) rfl ?_
  refine wpT_callv 29 M2 (v := .agg (cs U8 (A ++ (B ++ n)))) rfl rfl rfl (by go_simp) (of_v HA.out HB.out HT.out M2.end_ hk hn) (fun w3 M4 => ?_)
  refine wpT_new (z := .agg (cs U8 (zs 76))) 11 M4 (by kernel_rfl) (by decide) rfl rfl rfl rfl (fun b5 w6 M7 => ?_)
  try dsimp only [Value.cells] at M7
  try simp only [Act.put, List.setIfInBounds_toArray, List.set_cons_succ, List.set_cons_zero]
  refine wpT_st0 M7 0 (cs U8 (A ++ (B ++ n))) inf_keys rfl rfl rfl rfl (by go_simp) (by go_simp) (by simp [hk, hn, hA, hB, hE]) (by simp [hk, hn, hA, hB, hE]) (by simp [go_sem]) rfl (fun w8 M9 => ?_)
  dsimp only [List.set] at M9
  dsimp only [wpT]
  try simp only [Act.put, List.setIfInBounds_toArray, List.set_cons_succ, List.set_cons_zero]
  go_upto_region 7 with fail
  refine wp_region_seq 7 [30, 31, 32, 33, 34, 35, 12] [] [] [] (.op 7 .done) (Mm no w _) (by kernel_rfl) (by kernel_rfl) (by kernel_rfl) (fun d _ _ _ _ h => by cases d <;> exact h) (by rfl) M9.size (fun _ _ h k => h.sf k) M9 ?_
  simp only [List.take_succ_cons, List.take_zero]
  refine SeqA.ld0 Tryd.underlying46 rfl inf_keys (b5) (cs U8 (A ++ (B ++ n))) rfl (by go_simp) (fun _ M => M.row (by simp)) (by simp [hk, hn, hA, hB, hE]) rfl ?_
  refine SeqA.pure (.slice AO o.length co) (fun w' => by go_simp) rfl rfl ?_
  refine SeqA.pure (.slice (some ⟨ba, oa, none⟩) C cb) (fun w' => by go_simp) rfl rfl ?_
  refine SeqA.pure (.int .i64 e) (fun w' => by go_simp) rfl rfl ?_
  refine SeqA.pure (.slice (some ⟨ba, oa, none⟩) e cb) (fun w' => by go_simp) rfl rfl ?_
  simp only [Act.put, List.setIfInBounds_toArray, List.set_cons_succ, List.set_cons_zero]
  refine SeqA.call _ _ _ (fun w' => by go_simp) (fun w' hI _ => tag_v HE.out HT.out hI.end_ hA hB hn (SV.below HVO.out hI.end_) (SV.below HVB.out hI.end_) (by omega) (by omega)) M9.size rfl rfl ?_
  refine SeqA.var (z := .agg (cs U8 (zs 16))) (by kernel_rfl) rfl rfl (by decide) rfl ?_
  refine SeqA.nil (fun w10 M11 hz => ?_)
  refine news_one (fun b12 hb1 hb2 hb3 => ?_)
  have M13 := M9.in_ (c := cs U8 (zs 16)) M11 hb1 hb2 (by decide) hb3 rfl
  show wpT _ _ _ _ _ _
  simp only [Act.put, List.setIfInBounds_toArray, List.set_cons_succ, List.set_cons_zero]
  refine wpT_st0 M13 0 (cs U8 E) inf_tag rfl rfl rfl rfl (by go_simp) (by go_simp) (by simp [hk, hn, hA, hB, hE]) (by simp [hk, hn, hA, hB, hE]) (by simp [go_sem]) rfl (fun w14 M15 => ?_)
  dsimp only [List.set] at M15
  dsimp only [wpT]
  go_upto_region 8 with fail
  refine wp_region_seq 6 [36, 37, 38, 39, 40, 41] [] [] [] (.done) (Mm no w _) (by kernel_rfl) (by kernel_rfl) (by kernel_rfl) (fun d _ _ _ _ h => by cases d <;> exact h) (by rfl) M15.size (fun _ _ h k => h.sf k) M15 ?_
  simp only [List.take_succ_cons, List.take_zero]
  refine SeqA.pure (.slice (some ⟨b12, 0, none⟩) 16 16) (fun w' => by go_simp) rfl rfl ?_
  refine SeqA.pure (.slice (some ⟨ba, oa, none⟩) C cb) (fun w' => by go_simp) rfl rfl ?_
  refine SeqA.pure (.int .i64 e) (fun w' => by go_simp) rfl rfl ?_
  refine SeqA.pure (.slice (some ⟨ba, oa + e, none⟩) (C - e) (cb - e)) (fun w' => by go_simp) rfl rfl ?_
  refine SeqA.call _ _ _ (fun w' => by go_simp) (fun w' hI _ => equal_v HR.out (BS.row (hI.row (b := b12) (c := cs U8 E) (by simp)) hE (by unfold maxLen; decide)) (SV.below HVD.out hI.end_)) M15.size rfl rfl ?_
  simp only [Act.put, List.setIfInBounds_toArray, List.set_cons_succ, List.set_cons_zero]
  refine SeqA.pure (.bool (!r)) (fun w' => by go_simp) rfl rfl ?_
  refine SeqA.nil (fun w16 M17 hz => ?_)
  show wpT _ _ _ _ _ _
  simp only [Act.put, List.setIfInBounds_toArray, List.set_cons_succ, List.set_cons_zero]
  cases r with
  | false =>
    simp only [Bool.not_false]
    dsimp only [wpT]
    go_upto_region 9 with fail
    refine wp_region_lin (.op 0 (.op 1 .done)) (by rfl) ?_
    refine wpT_valp 8 (v := (.slice none 0 0)) rfl rfl rfl (by go_simp) ?_
    refine wpT_valp 9 (v := .int .i64 6) rfl rfl rfl (by go_simp) ?_
    dsimp only [wpT]
    try simp only [Act.put, List.setIfInBounds_toArray, List.set_cons_succ, List.set_cons_zero]
    go_wp2_with fail
    refine bodyPost_ret (res_two rfl (rv_tmp _ _ rfl) (rv_tmp _ _ rfl)) rfl ?_
    exact ⟨_, rfl, BN.nil _ _, M17.end_⟩
  | true =>
    simp only [Bool.not_true]
    dsimp only [wpT]
    go_upto_region 10 with fail
    refine wp_region_seq 5 [42, 43, 44, 45, 46] [4] [] [] (.op 5 (.op 6 .done)) (Mm no w _) (by kernel_rfl) (by kernel_rfl) (by kernel_rfl) (fun d _ _ _ _ h => by cases d <;> exact h) (by rfl) M17.size (fun _ _ h k => h.sf k) M17 ?_
    simp only [List.take_succ_cons, List.take_zero]
    refine SeqA.ld0 Tryd.underlying46 rfl inf_keys (b5) (cs U8 (A ++ (B ++ n))) rfl (by go_simp) (fun _ M => M.row (by simp)) (by simp [hk, hn, hA, hB, hE]) rfl ?_
    refine SeqA.pure (.slice (some ⟨ba, oa, none⟩) C cb) (fun w' => by go_simp) rfl rfl ?_
    refine SeqA.pure (.int .i64 e) (fun w' => by go_simp) rfl rfl ?_
    refine SeqA.pure (.slice (some ⟨ba, oa, none⟩) e cb) (fun w' => by go_simp) rfl rfl ?_
    refine SeqA.callP (fun v w' => BN w' w.heap.size v X) _ _ (fun v w1 w2 h k => h.sf k) (fun w' => by go_simp) (fun w' hI _ => (turn_v HX.out hA hB hn (SV.below HVB.out hI.end_) (by omega)).mono (fun e w' ⟨v, h1, h2, h3⟩ => ⟨v, h1, h2.mono hI.size, h3⟩)) M17.size (by decide) rfl rfl (fun v9 => ?_)
    refine SeqA.nil (fun w18 M19 hz => ?_)
    show wpT _ _ _ _ _ _
    simp only [Act.put, List.setIfInBounds_toArray, List.set_cons_succ, List.set_cons_zero]
    obtain ⟨M19, HB9⟩ := M19
    have HB9 := hid HB9
    refine wpT_valp 8 (v := v9) rfl rfl rfl (by go_simp) ?_
    refine wpT_valp 9 (v := .int .i64 0) rfl rfl rfl (by go_simp) ?_
    dsimp only [wpT]
    try simp only [Act.put, List.setIfInBounds_toArray, List.set_cons_succ, List.set_cons_zero]
    go_wp2_with fail
    refine bodyPost_ret (res_two rfl (rv_tmp _ _ rfl) (rv_tmp _ _ rfl)) rfl ?_
    exact ⟨v9, rfl, HB9.out, M19.end_⟩
end Go.Proofs.YtbigmnhjnjeeaaaDoor
