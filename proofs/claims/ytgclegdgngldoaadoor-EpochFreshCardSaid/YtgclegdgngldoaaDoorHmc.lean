/-
  HMAC in plain Lean, and the walks of package hmac: the padded key; own work.
  Walks of package hmac: the code; own work.
  Walks of reference 04: the bytes of a key, bytes joined, a tag's first half; own work.
  Walks of reference 04: a tag's first half, and the tag; own work.
  Walks of reference 04: the tag; own work.
  Walk of reference 04: as many bytes as one likes; own work.
  Walks of package hmac: bytes alike, a tag's first half, one secret; own work.
  Walk of hmac.Expand; own work.
  Walk of reference 04: a key for a purpose; own work.
  Walk of hmac.Derive; own work.
-/
import Derived.Test.YtgclegdgngldoaaDoorLaw3
import Derived.Laws.CopyOwn
import Derived.Laws.MakeOwn
import Derived.Test.YtgclegdgngldoaaDoorStep
set_option linter.unusedSimpArgs false
set_option linter.unusedVariables false
namespace Go.Proofs.YtgclegdgngldoaaDoor.Sh
def key0 (k : List B) : List B := if 64 < k.length then sum k else k
def padB (k : List B) (x : B) : List B := (k ++ zeros (64 - k.length)).map (· ^^^ x)
def mac (k m : List B) : List B := sum (padB (key0 k) 92 ++ sum (padB (key0 k) 54 ++ m))
def tb (prk info : List B) : Nat → List B
  | 0 => []
  | i + 1 => mac prk (tb prk info i ++ info ++ [BitVec.ofNat 8 (i + 1)])
def okm (prk info : List B) : Nat → List B
  | 0 => []
  | i + 1 => okm prk info i ++ tb prk info (i + 1)
def expand (prk info : List B) (n : Nat) : List B := (okm prk info ((n + 31) / 32)).take n
theorem mac_len (k m : List B) : (mac k m).length = 32 := rfl
theorem key0_len (k : List B) : (key0 k).length ≤ 64 := by
  unfold key0; split
  · show 32 ≤ 64; omega
  · omega
theorem padB_len (k : List B) (x : B) (h : k.length ≤ 64) : (padB k x).length = 64 := by simp [padB, zeros]; omega
end Go.Proofs.YtgclegdgngldoaaDoor.Sh
namespace Go.Proofs.YtgclegdgngldoaaDoor
open Go.RowKit

@[go_sem] theorem make_64 (w : World) : (Instr.makeSlice 89 (.int .i64 64) (.int .i64 64)).run Tryd.prog w = .ok (.slice (some ⟨w.heap.size, 0, none⟩) 64 64) (w.alloc (.cells (cs U8 (zs 64)) 5)) := by
  obtain ⟨i, hi0, hz0, hz1, hz2⟩ := info_parts info_u8
  have h := run_makeSlice (P := Tryd.prog) (w := w) 89 5 i (.int .u8 0) Tryd.underlying89 hi0 hz0 .i64 .i64 64 64 (by decide) (by decide) (by rw [hz1]; decide) (by rw [hz2]; decide) (by decide)
  have e : madeCells (Value.int .u8 0).cells ((64 : Int).toNat * 1) = cs U8 (zs 64) := by kernel_rfl
  rw [hz1, e] at h
  exact h
theorem info_1 : (Tryd.prog.info? 5).map (·.size) = some 1 := by kernel_rfl
/-- copy into a row that may be written -/
theorem wpList_copyb {w : World} {ops : Array Oper} {rest : List Oper} {o : Oper} {a : Act} {Q : Exit → Act → World → Prop} (hgd : o.guard = none) (d s : Operand)
    (ho : o.op = .call { callee := .builtin .copy, args := #[d, s], argTypes := #[89, 89] }) (g dLen dCap : Nat) (u : Value) (D l : List (BitVec 8))
    (hd : a.eval d = .slice (some ⟨g, 0, none⟩) dLen dCap) (hs : a.eval s = u) (hr : w.rowOf g = cs U8 D) (hf : w.free g = true) (hu : BS w u l) (hl : l.length ≤ dLen) (hD : dLen ≤ D.length)
    (B : Nat) (w0 : World) (hb : Below B w0 w) (hB : B ≤ g)
    (h : ∀ w', w'.rowOf g = cs U8 (l ++ D.drop l.length) → w'.free g = true → (∀ T c fz, w.heap[g]? = some (.cells c T fz) → w'.heap[g]? = some (.cells (cs U8 (l ++ D.drop l.length)) T (0, 0))) → Below B w0 w' → wpList Tryd.prog ops Q rest (a.put o.dst (goInt l.length)) w') : wpList Tryd.prog ops Q (o :: rest) a w := by
  obtain ⟨sp, cap, rfl, h1, h2, h3⟩ := hu
  have hg : ∃ t, w.heap[g]? = some (.cells (D.map U8).toArray t (0, 0)) := by
    unfold World.free at hf
    cases hh : w.heap[g]? with
    | none => rw [hh] at hf; cases hf
    | some ob =>
      rw [hh] at hf
      cases ob <;> simp only [Bool.false_eq_true] at hf
      rename_i c t fz
      have : w.rowOf g = c := rowOf_eq hh
      rw [hr] at this
      refine ⟨t, ?_⟩
      rw [← this]
      simp only [beq_iff_eq] at hf
      rw [hf]; rfl
  obtain ⟨t, hg⟩ := hg
  refine wpList_copy_splice hgd d s 89 89 ho 5 Tryd.underlying89 info_1 _ _ dLen dCap l.length cap hd hs g 0 (D.map U8) t hg (l.map U8) (by rw [List.length_map]; exact (Nat.min_eq_left hl).symm) (fun hp => ⟨rfl, ?_⟩) (by simp; omega) (by simp; intro _ _; rfl) B w0 hb hB (fun w' hw hbw => ?_)
  · obtain ⟨b, o', rfl, h4⟩ := h3 (by intro e; rw [e] at hp; simp at hp)
    refine ⟨_, rfl, fun j v hj => ?_⟩
    rw [Addr.add_mid, h4 j (by exact (List.getElem?_eq_some_iff.1 hj).1), hj]
  · have hw' := hw.out
    have e : splice (D.map U8) 0 (l.map U8) = (l ++ D.drop l.length).map U8 := by simp [splice]
    rw [e] at hw'
    have := h w' (rowOf_eq hw') (free_eq hw') (fun T c fz e => by rw [hg] at e; injection e with e; injection e with e1 e2 e3; rw [← e2]; exact hw') hbw
    simpa using this
def xorRow (L : List (BitVec 8)) (x : BitVec 8) (i : Nat) : List (BitVec 8) := (L.take i).map (· ^^^ x) ++ L.drop i
theorem xorRow_len (L : List (BitVec 8)) (x : BitVec 8) (i : Nat) (h : i ≤ L.length) : (xorRow L x i).length = L.length := by simp [xorRow]; omega
theorem xorRow_get (L : List (BitVec 8)) (x : BitVec 8) (i : Nat) (h : i < L.length) : (xorRow L x i).getD i 0 = L.getD i 0 := by
  unfold xorRow
  have e : ((L.take i).map (· ^^^ x)).length = i := by simp; omega
  rw [List.getD_eq_getElem?_getD, List.getElem?_append_right (by omega), e, Nat.sub_self, List.getElem?_drop, Nat.add_zero, List.getD_eq_getElem?_getD]
theorem xorRow_set (L : List (BitVec 8)) (x : BitVec 8) (i : Nat) (h : i < L.length) : (xorRow L x i).set i (L.getD i 0 ^^^ x) = xorRow L x (i + 1) := by
  unfold xorRow
  have e : ((L.take i).map (· ^^^ x)).length = i := by simp; omega
  rw [List.set_append_right _ _ (by omega), e, Nat.sub_self, List.drop_eq_getElem_cons h, List.set_cons_zero, List.take_succ_eq_append_getElem h, List.map_append, List.append_assoc, List.getD_eq_getElem?_getD, List.getElem?_eq_getElem h]
  rfl
theorem xorRow_zero (L : List (BitVec 8)) (x : BitVec 8) : xorRow L x 0 = L := by simp [xorRow]
theorem xorRow_all (L : List (BitVec 8)) (x : BitVec 8) (n : Nat) (h : L.length = n) : xorRow L x n = L.map (· ^^^ x) := by
  subst h; simp [xorRow]
attribute [local irreducible] xorRow
theorem ob_of_heap {w : World} {g n : Nat} {base : Nat} {L : List (BitVec 8)} (hh : w.heap[g]? = some (.cells (cs U8 L) 5 (0, 0))) (hn : L.length = n) (hb : base ≤ g) (hm : n ≤ maxLen) : OB w base (.slice (some ⟨g, 0, none⟩) n n) L := by
  subst hn
  refine ⟨by simp, .inr ⟨g, L.length, cs U8 L, rfl, hb, hh, Nat.le_refl _, hm, by simp, ?_⟩⟩
  rw [Nat.mul_one]
  exact List.take_of_length_le (by simp)
set_option maxRecDepth 100000 in
set_option maxHeartbeats 1000000 in
theorem pad_any (w : World) (v : Value) (l : List (BitVec 8)) (x : BitVec 8) (hv : BS w v l) (hn : l.length ≤ 64) :
    Calls Tryd.prog 88 #[v, U8 x] w fun e w' => ∃ u, e = .returned u ∧ OB w' w.heap.size u (Sh.padB l x) ∧ Below w.heap.size w w' := by
  obtain ⟨n, hnl⟩ : ∃ n, n = l.length := ⟨_, rfl⟩
  obtain ⟨av, cv, rfl, hcv⟩ := hv.shape' n hnl.symm
  have HL := hid hnl
  rw [← hnl] at hn
  clear hnl
  go_enter Tryd.func88, Tryd.ntmps88
  have hv1 : BS (w.alloc (.cells (cs U8 (zs 64)) 5)) (.slice av n cv) l := SV.alloc hv _
  go_wp2_with (refine wpList_copyb rfl (.tmp 8) (.tmp 9) rfl w.heap.size 64 64 _ (zs 64) l rfl rfl (by simp [go_sem]) (by simp [go_sem]) hv1 (by rw [← HL.out]; exact hn) (by simp [zs]) w.heap.size w ((Below.refl _ _).alloc (Nat.le_refl _) _) (Nat.le_refl _) ?_; intro w1 hr1 hf1 ht1 hb1)
  obtain ⟨L, hL⟩ : ∃ L, L = l ++ Sh.zeros (64 - l.length) := ⟨_, rfl⟩
  have hLl : L.length = 64 := by rw [hL]; have := HL.out; simp [Sh.zeros]; omega
  have hdr : List.drop l.length (zs 64 : List (BitVec 8)) = Sh.zeros (64 - l.length) := by unfold zs Sh.zeros; rw [List.drop_replicate]
  have ho1 : OB w1 w.heap.size (.slice (some ⟨w.heap.size, 0, none⟩) 64 64) L := by
    refine ob_of_heap ?_ hLl (Nat.le_refl _) (by unfold maxLen; decide)
    rw [hL, ← hdr]
    exact ht1 _ _ _ (heap_new' _)
  have HP := hid hL
  clear hL hr1 hf1 ht1 hdr hv hv1
  go_loopw [6, 13] (fun _ t wr => ∃ i : Nat, i ≤ 64 ∧ t = .int .i64 i ∧ OB wr w.heap.size (.slice (some ⟨w.heap.size, 0, none⟩) 64 64) (xorRow L x i) ∧ Below w.heap.size w wr) (fun _ t _ => 64 - (intOf t).toNat)
  case atStart => exact ⟨0, by omega, rfl, by rw [xorRow_zero]; exact ho1, hb1⟩
  case round =>
    clear ho1 hb1
    obtain ⟨i, hi, rfl, hov, hbw⟩ := hrel
    have hxl : (xorRow L x i).length = 64 := (xorRow_len L x i (by omega)).trans hLl
    by_cases hlt : i < 64
    · obtain ⟨e1, e2, e3⟩ := hov.set hxl i hlt ((xorRow L x i).getD i 0 ^^^ x)
      obtain ⟨gv, ov, c', hgv, hcv', hcl⟩ := hov.bs.open (by intro e; rw [e] at hxl; cases hxl)
      rw [hxl] at hgv hcl
      cases hgv
      have k1 := hcl i hlt
      rw [Nat.zero_add] at k1
      have hff := free_frozen e1 i
      have q0 : (0 : Int) ≤ i := by omega
      have q1 : (i : Int) < 64 := by omega
      obtain ⟨y, hy⟩ : ∃ y, y = (xorRow L x i).getD i 0 := ⟨_, rfl⟩
      rw [← hy] at k1 e3
      have HY := hid hy
      have HX := hid hxl
      clear hcl hxl hov hy
      go_wp2_with fail
      go_roundw
      case rel =>
        refine ⟨i + 1, by omega, by go_num, ?_, below_setRow' hbw (Nat.le_refl _) _⟩
        rw [← xorRow_set L x i (by omega), ← xorRow_get L x i (by omega), ← HY.out]
        exact e3
      case measure => simp [intOf]; omega
    · have : i = 64 := by omega
      subst this
      have HX := hid hxl
      clear hxl
      go_wp2_with fail
      go_ret
      refine ⟨_, rfl, ?_, hbw⟩
      have hx : xorRow L x 64 = Sh.padB l x := by rw [xorRow_all L x 64 hLl, HP.out]; rfl
      rw [hx] at hov
      exact hov
end Go.Proofs.YtgclegdgngldoaaDoor
set_option linter.unusedSimpArgs false
set_option linter.unusedVariables false
namespace Go.Proofs.YtgclegdgngldoaaDoor
open Go.RowKit

theorem BS.row {w : World} {g n : Nat} {L : List (BitVec 8)} (hr : w.rowOf g = cs U8 L) (hn : L.length = n) (hm : n ≤ maxLen) : BS w (.slice (some ⟨g, 0, none⟩) n n) L := by
  subst hn
  refine ⟨_, L.length, rfl, Nat.le_refl _, hm, fun _ => ⟨g, 0, rfl, fun i hi => ?_⟩⟩
  rw [cell_rowOf, hr]; simp [cs]
theorem ob_ne {g c n m b : Nat} (h : g ≠ b) : (Value.slice (some ⟨g, c, none⟩) n m).ownBlock ≠ some b := by
  intro e; cases c <;> simp [Value.ownBlock] at e <;> exact h e
theorem pad_lit (c : Int) (x : BitVec 8) (hc : U8 x = .int .u8 c) (w : World) (v : Value) (l : List (BitVec 8)) (hv : BS w v l) (hn : l.length ≤ 64) :
    Calls Tryd.prog 88 #[v, .int .u8 c] w fun e w' => ∃ u, e = .returned u ∧ OB w' w.heap.size u (Sh.padB l x) ∧ Below w.heap.size w w' := by rw [← hc]; exact pad_any w v l x hv hn
theorem pad_sep {w w' : World} {b : Nat} {u : Value} {l : List (BitVec 8)} (h : OB w' w.heap.size u l) (hb : b < w.heap.size) : l = [] ∨ u.ownBlock ≠ some b := .inr (fun e => by have := (h.lt b e).1; omega)
theorem sumfnD {w : World} {v : Value} {l D : List (BitVec 8)} (hD : D = Sh.sum l) (hK : KT w) (hk0 : 0 < w.heap.size) (hv : BS w v l) (hn : l.length ≤ 1073741824) :
    Calls Tryd.prog 85 #[v] w fun e w' => e = .returned (.agg (cs U8 D)) ∧ Below w.heap.size w w' := by
  rw [hD]; exact sum_any w v l hK hk0 hv hn
set_option maxRecDepth 100000 in
set_option maxHeartbeats 4000000 in
theorem mac_any (w : World) (v0 v1 : Value) (k m : List (BitVec 8)) (hT : KT w) (hk0 : 0 < w.heap.size) (h0 : BS w v0 k) (h1 : BS w v1 m) (hkl : k.length ≤ 1073741000) (hml : m.length ≤ 1073741000) :
    Calls Tryd.prog 64 #[v0, v1] w fun e w' => e = .returned (.agg (cs U8 (Sh.mac k m))) ∧ Below w.heap.size w w' := by
  obtain ⟨n, hn⟩ : ∃ n, n = k.length := ⟨_, rfl⟩
  obtain ⟨av, cv, rfl, hcv⟩ := h0.shape' n hn.symm
  have HN := hid hn
  obtain ⟨D, hD⟩ : ∃ D, D = Sh.sum (Sh.padB (Sh.key0 k) 54 ++ m) := ⟨_, rfl⟩
  have hDl : D.length = 32 := by rw [hD]; rfl
  obtain ⟨E, hE⟩ : ∃ E, E = Sh.sum (Sh.padB (Sh.key0 k) 92 ++ D) := ⟨_, rfl⟩
  have hEl : E.length = 32 := by rw [hE]; rfl
  have hmac : Sh.mac k m = E := by rw [hE, hD]; rfl
  have hp1 : (Sh.padB (Sh.key0 k) 54).length = 64 := Sh.padB_len _ _ (Sh.key0_len k)
  have hp2 : (Sh.padB (Sh.key0 k) 92).length = 64 := Sh.padB_len _ _ (Sh.key0_len k)
  have hkk := Sh.key0_len k
  rw [hmac]
  have HD := hid hD; have HE := hid hE; have HP1 := hid hp1; have HP2 := hid hp2; have HKK := hid hkk
  have ha : Below w.heap.size w (w.alloc (.cells (cs U8 (zs 32)) 23)) := (Below.refl _ _).alloc (Nat.le_refl _) _
  have hra : (w.alloc (.cells (cs U8 (zs 32)) 23)).rowOf w.heap.size = cs U8 (zs 32) := rowOf_alloc_at _ _ _ rfl
  have hfa : (w.alloc (.cells (cs U8 (zs 32)) 23)).free w.heap.size = true := free_alloc_at _ _ _ rfl
  have hsa : (w.alloc (.cells (cs U8 (zs 32)) 23)).heap.size = w.heap.size + 1 := by simp
  obtain ⟨wa, hwa⟩ : ∃ wa, wa = w.alloc (.cells (cs U8 (zs 32)) 23) := ⟨_, rfl⟩
  rw [← hwa] at ha hra hfa hsa
  have HWA := hid hwa
  clear hD hE hp1 hp2 hmac hn hwa hkk
  have HT : Hid (∀ wx, Below (w.heap.size + 1) wa wx → KT wx) := hid fun wx h => (hT.below ha hk0).below h (by omega)
  have HV1 : Hid (∀ wx, Below (w.heap.size + 1) wa wx → BS wx v1 m) := hid fun wx h => SV.below (SV.below h1 ha) (by rw [hsa]; exact h)
  have HS1 : Hid (∀ b, w.heap.size ≤ b → m = [] ∨ v1.ownBlock ≠ some b) := hid fun b hb => by
    by_cases hl : m = []
    · exact .inl hl
    · exact .inr (fun e => by have := SV.lt h1 b e (by simpa using hl); omega)
  have hva : BS wa (.slice av n cv) k := SV.below h0 ha
  by_cases h64 : (64 : Int) < n
  · obtain ⟨K, hK⟩ : ∃ K, K = Sh.sum k := ⟨_, rfl⟩
    have hKl : K.length = 32 := by rw [hK]; rfl
    have hkey : Sh.key0 k = K := by rw [hK]; unfold Sh.key0; rw [if_pos (by rw [← HN.out]; omega)]
    have HK := hid hK
    clear hK
    go_enter Tryd.func64, Tryd.ntmps64
    go_wp2_with fail
    rw [← HWA.out]
    with_reducible refine (sumfnD (D := K) HK.out (HT.out wa (Below.refl _ _)) (by omega) hva (by rw [← HN.out] at hkl; rw [← HN.out]; omega)).mono ?_
    rintro e wc ⟨rfl, hbc⟩
    dsimp only
    go_wp2_with fail
    obtain ⟨wb, hwb⟩ : ∃ wb, wb = wc.alloc (.cells (cs U8 K) 23) := ⟨_, rfl⟩
    have hrb : wb.rowOf wc.heap.size = cs U8 K := by rw [hwb]; exact rowOf_alloc_at _ _ _ rfl
    have hbb : Below wc.heap.size wc wb := by rw [hwb]; exact (Below.refl _ _).alloc (Nat.le_refl _) _
    rw [← hwb]
    clear hwb
    have hvk : BS wb (Value.slice (some ⟨wc.heap.size, 0, none⟩) 32 32) (Sh.key0 k) := by rw [hkey]; exact BS.row hrb hKl (by unfold maxLen; decide)
    have hzc := hbc.size
    have hBb : Below (w.heap.size + 1) wa wb := by rw [← hsa]; exact hbc.trans (hbb.mono hzc)
    have hzb : w.heap.size + 1 ≤ wb.heap.size := by have := hbb.size; omega

    -- now at New, in the world wb, the key in vk
    with_reducible refine (newS wb).mono ?_
    rintro e w1 ⟨b, rfl, hb, hs1, hb1⟩
    have hB1 : Below (w.heap.size + 1) wa w1 := hBb.trans (hb1.mono hzb)
    have hz1 := hb1.size
    have hl1 := hs1.lt
    have hvk1 : BS w1 (Value.slice (some ⟨wc.heap.size, 0, none⟩) 32 32) (Sh.key0 k) := hvk.below hb1
    dsimp only
    go_wp2_with fail
    with_reducible refine (pad_lit 54 54 rfl w1 (Value.slice (some ⟨wc.heap.size, 0, none⟩) 32 32) (Sh.key0 k) hvk1 HKK.out).mono ?_
    rintro e w2 ⟨u2, rfl, ho2, hb2⟩
    have hs2 := hs1.below hb2
    have hB2 := hB1.trans (hb2.mono (by omega))
    have hz2 := hb2.size
    dsimp only
    go_wp2_with fail
    with_reducible refine (writeS u2 _ (HT.out w2 hB2) (by omega) hs2 ho2.bs (pad_sep ho2 hl1) (by rw [HP1.out]; simp)).mono ?_
    rintro e w3 ⟨rfl, rv3, hs3, hf3, hg3⟩
    have hB3 := hB2.trans (hs_below hs2 hf3 (by omega : w.heap.size + 1 ≤ b))
    have hz3 := hf3.size
    rw [List.nil_append] at hs3
    dsimp only
    go_wp2_with fail
    with_reducible refine (writeS v1 m (HT.out w3 hB3) (by omega) hs3 (HV1.out w3 hB3) (HS1.out b (by omega)) (by rw [HP1.out]; omega)).mono ?_
    rintro e w4 ⟨rfl, rv4, hs4, hf4, hg4⟩
    have hB4 := hB3.trans (hs_below hs3 hf4 (by omega : w.heap.size + 1 ≤ b))
    have hz4 := hf4.size
    dsimp only
    go_wp2_with fail
    with_reducible refine (sumD HD.out (HT.out w4 hB4) (by omega) hs4 (by rw [List.length_append, HP1.out]; omega)).mono ?_
    rintro e w5 ⟨rfl, hb5⟩
    have hB5 := hB4.trans (hb5.mono (by omega))
    have hz5 := hb5.size
    dsimp only
    go_wp2_with fail
    have hc6 : Below w5.heap.size w5 (w5.alloc (.cells (cs U8 D) 23)) := (Below.refl _ _).alloc (Nat.le_refl _) _
    have hr6 : (w5.alloc (.cells (cs U8 D) 23)).rowOf w5.heap.size = cs U8 D := rowOf_alloc_at _ _ _ rfl
    have hs6 : (w5.alloc (.cells (cs U8 D) 23)).heap.size = w5.heap.size + 1 := by simp
    obtain ⟨w6, hw6⟩ : ∃ w6, w6 = w5.alloc (.cells (cs U8 D) 23) := ⟨_, rfl⟩
    rw [← hw6] at hc6 hr6 hs6
    rw [← hw6]
    clear hw6
    have hB6 := hB5.trans (hc6.mono (by omega))
    with_reducible refine (newS w6).mono ?_
    rintro e w7 ⟨b2, rfl, hb', hs7, hb7⟩
    have hB7 := hB6.trans (hb7.mono (by omega))
    have hz7 := hb7.size
    have hl7 := hs7.lt
    have hvk7 : BS w7 (Value.slice (some ⟨wc.heap.size, 0, none⟩) 32 32) (Sh.key0 k) := by
      have e1 : Below wb.heap.size wb w7 := ((((((hb1.trans (hb2.mono hz1)).trans (hs_below hs2 hf3 hb)).trans (hs_below hs3 hf4 hb)).trans (hb5.mono (by omega))).trans (hc6.mono (by omega))).trans (hb7.mono (by omega)))
      exact hvk.below e1
    dsimp only
    go_wp2_with fail
    with_reducible refine (pad_lit 92 92 rfl w7 (Value.slice (some ⟨wc.heap.size, 0, none⟩) 32 32) (Sh.key0 k) hvk7 HKK.out).mono ?_
    rintro e w8 ⟨u8, rfl, ho8, hb8⟩
    have hs8 := hs7.below hb8
    have hB8 := hB7.trans (hb8.mono (by omega))
    have hz8 := hb8.size
    dsimp only
    go_wp2_with fail
    with_reducible refine (writeS u8 _ (HT.out w8 hB8) (by omega) hs8 ho8.bs (pad_sep ho8 hl7) (by rw [HP2.out]; simp)).mono ?_
    rintro e w9 ⟨rfl, rv9, hs9, hf9, hg9⟩
    have hB9 := hB8.trans (hs_below hs8 hf9 (by omega : w.heap.size + 1 ≤ b2))
    have hz9 := hf9.size
    rw [List.nil_append] at hs9
    have hr9 : w9.rowOf w5.heap.size = cs U8 D := (below_row ((hb7.trans (hb8.mono (by omega))).trans (hs_below hs8 hf9 hb')) (by omega)).trans hr6
    have hbs9 : BS w9 (.slice (some ⟨w5.heap.size, 0, none⟩) 32 32) D := BS.row hr9 hDl (by unfold maxLen; decide)
    dsimp only
    go_wp2_with fail
    with_reducible refine (writeS _ D (HT.out w9 hB9) (by omega) hs9 hbs9 (.inr (ob_ne (by omega))) (by rw [HP2.out, hDl]; decide)).mono ?_
    rintro e w10 ⟨rfl, rv10, hs10, hf10, hg10⟩
    have hB10 := hB9.trans (hs_below hs9 hf10 (by omega : w.heap.size + 1 ≤ b2))
    have hz10 := hf10.size
    dsimp only
    go_wp2_with fail
    with_reducible refine (sumD HE.out (HT.out w10 hB10) (by omega) hs10 (by rw [List.length_append, HP2.out, hDl]; decide)).mono ?_
    rintro e w11 ⟨rfl, hb11⟩
    have hB11 := hB10.trans (hb11.mono (by omega))
    have q1 : w11.rowOf w.heap.size = cs U8 (zs 32) := (below_row hB11 (by omega)).trans hra
    have q2 : w11.free w.heap.size = true := (below_free hB11 (by omega)).trans hfa
    have HB11 := hid hB11
    clear hB11 hra hfa
    dsimp only
    go_wp2_with fail
    refine bodyPost_ret (res_row (b := w.heap.size) rfl Tryd.underlying23 rfl inf_key _ _ rfl ?_) rfl ?_
    · rw [rowOf_setRow_same _ q2]; simp [hEl]
    · rw [rowOf_setRow_same _ q2]
      exact ⟨rfl, below_setRow' (ha.trans (HB11.out.mono (by omega))) (Nat.le_refl _) _⟩
  · have hkey : Sh.key0 k = k := by unfold Sh.key0; rw [if_neg (by rw [← HN.out]; omega)]
    go_enter Tryd.func64, Tryd.ntmps64
    go_wp2_with fail
    rw [← HWA.out]
    obtain ⟨wb, hwb⟩ : ∃ wb, wb = wa := ⟨_, rfl⟩
    have hvk : BS wb (Value.slice av n cv) (Sh.key0 k) := by rw [hwb, hkey]; exact hva
    have hBb : Below (w.heap.size + 1) wa wb := by rw [hwb]; exact Below.refl _ _
    have hzb : w.heap.size + 1 ≤ wb.heap.size := by rw [hwb]; omega
    rw [← hwb]

    -- now at New, in the world wb, the key in vk
    with_reducible refine (newS wb).mono ?_
    rintro e w1 ⟨b, rfl, hb, hs1, hb1⟩
    have hB1 : Below (w.heap.size + 1) wa w1 := hBb.trans (hb1.mono hzb)
    have hz1 := hb1.size
    have hl1 := hs1.lt
    have hvk1 : BS w1 (Value.slice av n cv) (Sh.key0 k) := hvk.below hb1
    dsimp only
    go_wp2_with fail
    with_reducible refine (pad_lit 54 54 rfl w1 (Value.slice av n cv) (Sh.key0 k) hvk1 HKK.out).mono ?_
    rintro e w2 ⟨u2, rfl, ho2, hb2⟩
    have hs2 := hs1.below hb2
    have hB2 := hB1.trans (hb2.mono (by omega))
    have hz2 := hb2.size
    dsimp only
    go_wp2_with fail
    with_reducible refine (writeS u2 _ (HT.out w2 hB2) (by omega) hs2 ho2.bs (pad_sep ho2 hl1) (by rw [HP1.out]; simp)).mono ?_
    rintro e w3 ⟨rfl, rv3, hs3, hf3, hg3⟩
    have hB3 := hB2.trans (hs_below hs2 hf3 (by omega : w.heap.size + 1 ≤ b))
    have hz3 := hf3.size
    rw [List.nil_append] at hs3
    dsimp only
    go_wp2_with fail
    with_reducible refine (writeS v1 m (HT.out w3 hB3) (by omega) hs3 (HV1.out w3 hB3) (HS1.out b (by omega)) (by rw [HP1.out]; omega)).mono ?_
    rintro e w4 ⟨rfl, rv4, hs4, hf4, hg4⟩
    have hB4 := hB3.trans (hs_below hs3 hf4 (by omega : w.heap.size + 1 ≤ b))
    have hz4 := hf4.size
    dsimp only
    go_wp2_with fail
    with_reducible refine (sumD HD.out (HT.out w4 hB4) (by omega) hs4 (by rw [List.length_append, HP1.out]; omega)).mono ?_
    rintro e w5 ⟨rfl, hb5⟩
    have hB5 := hB4.trans (hb5.mono (by omega))
    have hz5 := hb5.size
    dsimp only
    go_wp2_with fail
    have hc6 : Below w5.heap.size w5 (w5.alloc (.cells (cs U8 D) 23)) := (Below.refl _ _).alloc (Nat.le_refl _) _
    have hr6 : (w5.alloc (.cells (cs U8 D) 23)).rowOf w5.heap.size = cs U8 D := rowOf_alloc_at _ _ _ rfl
    have hs6 : (w5.alloc (.cells (cs U8 D) 23)).heap.size = w5.heap.size + 1 := by simp
    obtain ⟨w6, hw6⟩ : ∃ w6, w6 = w5.alloc (.cells (cs U8 D) 23) := ⟨_, rfl⟩
    rw [← hw6] at hc6 hr6 hs6
    rw [← hw6]
    clear hw6
    have hB6 := hB5.trans (hc6.mono (by omega))
    with_reducible refine (newS w6).mono ?_
    rintro e w7 ⟨b2, rfl, hb', hs7, hb7⟩
    have hB7 := hB6.trans (hb7.mono (by omega))
    have hz7 := hb7.size
    have hl7 := hs7.lt
    have hvk7 : BS w7 (Value.slice av n cv) (Sh.key0 k) := by
      have e1 : Below wb.heap.size wb w7 := ((((((hb1.trans (hb2.mono hz1)).trans (hs_below hs2 hf3 hb)).trans (hs_below hs3 hf4 hb)).trans (hb5.mono (by omega))).trans (hc6.mono (by omega))).trans (hb7.mono (by omega)))
      exact hvk.below e1
    dsimp only
    go_wp2_with fail
    with_reducible refine (pad_lit 92 92 rfl w7 (Value.slice av n cv) (Sh.key0 k) hvk7 HKK.out).mono ?_
    rintro e w8 ⟨u8, rfl, ho8, hb8⟩
    have hs8 := hs7.below hb8
    have hB8 := hB7.trans (hb8.mono (by omega))
    have hz8 := hb8.size
    dsimp only
    go_wp2_with fail
    with_reducible refine (writeS u8 _ (HT.out w8 hB8) (by omega) hs8 ho8.bs (pad_sep ho8 hl7) (by rw [HP2.out]; simp)).mono ?_
    rintro e w9 ⟨rfl, rv9, hs9, hf9, hg9⟩
    have hB9 := hB8.trans (hs_below hs8 hf9 (by omega : w.heap.size + 1 ≤ b2))
    have hz9 := hf9.size
    rw [List.nil_append] at hs9
    have hr9 : w9.rowOf w5.heap.size = cs U8 D := (below_row ((hb7.trans (hb8.mono (by omega))).trans (hs_below hs8 hf9 hb')) (by omega)).trans hr6
    have hbs9 : BS w9 (.slice (some ⟨w5.heap.size, 0, none⟩) 32 32) D := BS.row hr9 hDl (by unfold maxLen; decide)
    dsimp only
    go_wp2_with fail
    with_reducible refine (writeS _ D (HT.out w9 hB9) (by omega) hs9 hbs9 (.inr (ob_ne (by omega))) (by rw [HP2.out, hDl]; decide)).mono ?_
    rintro e w10 ⟨rfl, rv10, hs10, hf10, hg10⟩
    have hB10 := hB9.trans (hs_below hs9 hf10 (by omega : w.heap.size + 1 ≤ b2))
    have hz10 := hf10.size
    dsimp only
    go_wp2_with fail
    with_reducible refine (sumD HE.out (HT.out w10 hB10) (by omega) hs10 (by rw [List.length_append, HP2.out, hDl]; decide)).mono ?_
    rintro e w11 ⟨rfl, hb11⟩
    have hB11 := hB10.trans (hb11.mono (by omega))
    have q1 : w11.rowOf w.heap.size = cs U8 (zs 32) := (below_row hB11 (by omega)).trans hra
    have q2 : w11.free w.heap.size = true := (below_free hB11 (by omega)).trans hfa
    have HB11 := hid hB11
    clear hB11 hra hfa
    dsimp only
    go_wp2_with fail
    refine bodyPost_ret (res_row (b := w.heap.size) rfl Tryd.underlying23 rfl inf_key _ _ rfl ?_) rfl ?_
    · rw [rowOf_setRow_same _ q2]; simp [hEl]
    · rw [rowOf_setRow_same _ q2]
      exact ⟨rfl, below_setRow' (ha.trans (HB11.out.mono (by omega))) (Nat.le_refl _) _⟩
end Go.Proofs.YtgclegdgngldoaaDoor
set_option linter.unusedSimpArgs false
set_option linter.unusedVariables false
namespace Go.Proofs.YtgclegdgngldoaaDoor
open Go.RowKit

theorem row_cell {w : World} {g : Nat} {L : List (BitVec 8)} (h : w.rowOf g = cs U8 L) (i : Nat) (hi : i < L.length) : w.cell? ⟨g, i, none⟩ = some (U8 (L.getD i 0)) := by
  rw [cell_rowOf, h, cs_get_lt hi, List.getD_eq_getElem?_getD, List.getElem?_eq_getElem hi]; rfl
theorem take_succ_getD {α : Type} (l : List α) (d : α) (i : Nat) (h : i < l.length) : l.take (i + 1) = l.take i ++ [l.getD i d] := by
  rw [List.take_succ_eq_append_getElem h, List.getD_eq_getElem?_getD, List.getElem?_eq_getElem h]; rfl
set_option maxRecDepth 100000 in
set_option maxHeartbeats 1000000 in
theorem rbytes_any (w : World) (l : List (BitVec 8)) (hl : l.length = 32) :
    Calls Tryd.prog 53 #[.agg (cs U8 l)] w fun e w' => ∃ u, e = .returned u ∧ OB w' w.heap.size u l ∧ Below w.heap.size w w' := by
  have HL := hid hl
  go_enter Tryd.func53, Tryd.ntmps53
  go_wp2_with fail
  have ha : Below w.heap.size w (w.alloc (.cells (cs U8 l) 23)) := (Below.refl _ _).alloc (Nat.le_refl _) _
  have hra : (w.alloc (.cells (cs U8 l) 23)).rowOf w.heap.size = cs U8 l := rowOf_alloc_at _ _ _ rfl
  have hsa : (w.alloc (.cells (cs U8 l) 23)).heap.size = w.heap.size + 1 := by simp
  obtain ⟨wa, hwa⟩ : ∃ wa, wa = w.alloc (.cells (cs U8 l) 23) := ⟨_, rfl⟩
  rw [← hwa] at ha hra hsa
  rw [← hwa]
  have HR := hid hra
  clear hwa hra hl
  go_loopw [3, 4] (fun u t wr => ∃ i : Nat, i ≤ 32 ∧ t = .int .i64 i ∧ OB wr (w.heap.size + 1) u (l.take i) ∧ Below (w.heap.size + 1) wa wr) (fun _ t _ => 32 - (intOf t).toNat)
  case atStart => exact ⟨0, by omega, rfl, OB.nil _ _, Below.refl _ _⟩
  case round =>
    obtain ⟨i, hi, rfl, hov, hbw⟩ := hrel
    have hz := hbw.size
    by_cases hlt : i < 32
    · have k1 := row_cell ((below_row hbw (by omega)).trans HR.out) i (by rw [HL.out]; exact hlt)
      have q0 : (0 : Int) ≤ i := by omega
      have q1 : (i : Int) < 32 := by omega
      have hlen : Hid ((l.take i).length + 1 ≤ 140737488355328) := hid (by simp; omega)
      have hts := hid (take_succ_getD l 0 i (by rw [HL.out]; exact hlt))
      go_wp2_with (refine wpList_apb rfl (.tmp 9) (.tmp 13) rfl (w.heap.size + 1) _ _ (l.take i) [l.getD i 0] rfl (OB.alloc hov _) rfl (BS.one _ _ _ rfl _) hlen.out (by simp; omega) ?_; rintro v3 w4 hown3 hg3 -; have HB4 := ob_below1 _ hbw hov (by omega) hg3)
      go_roundw
      case rel => exact ⟨i + 1, by omega, by go_num, by rw [hts.out]; exact hown3, HB4⟩
      case measure => simp [intOf]; omega
    · have : i = 32 := by omega
      subst this
      have e32 : l.take 32 = l := List.take_of_length_le (by rw [HL.out]; exact Nat.le_refl _)
      rw [e32] at hov
      have HV := hid hov
      clear hov e32
      go_wp2_with fail
      go_ret
      exact ⟨_, rfl, HV.out.mono (by omega), ha.trans (hbw.mono (by omega))⟩
set_option maxRecDepth 100000 in
set_option maxHeartbeats 1000000 in
theorem rjoin_any (w : World) (v1 v2 : Value) (a b : List (BitVec 8)) (h1 : BS w v1 a) (h2 : BS w v2 b) (hn : a.length + b.length ≤ 140737488355328) :
    Calls Tryd.prog 92 #[v1, v2] w fun e w' => ∃ u, e = .returned u ∧ OB w' w.heap.size u (a ++ b) ∧ Below w.heap.size w w' := by
  have H1 := hid h1; have H2 := hid h2; have HN := hid hn
  clear h1 h2 hn
  go_enter Tryd.func92, Tryd.ntmps92
  have he : OB (w.alloc (.cells #[] 5)) w.heap.size (.slice (some ⟨w.heap.size, 0, none⟩) 0 0) [] := ⟨rfl, .inr ⟨w.heap.size, 0, #[], rfl, Nat.le_refl _, heap_new' _, Nat.le_refl _, Nat.zero_le _, rfl, rfl⟩⟩
  have hb0 : Below w.heap.size w (w.alloc (.cells #[] 5)) := (Below.refl _ _).alloc (Nat.le_refl _) _
  go_wp2_with (first
    | (refine wpList_apb rfl (.tmp 6) (.tmp 7) rfl w.heap.size _ _ [] a rfl he rfl (SV.below H1.out hb0) (by have := HN.out; simp; omega) (by simp) ?_; rintro v3 w3 hown3 hg3 -; have hb3 : Below w.heap.size w w3 := ob_below hb0 he (by simp) hg3; have hz3 := hb3.size)
    | (refine wpList_apb rfl (.tmp 9) (.tmp 10) rfl w.heap.size _ _ ([] ++ a) b rfl hown3 rfl (SV.below H2.out hb3) (by have := HN.out; simp; omega) hz3 ?_; rintro v4 w4 hown4 hg4 -; have hb4 : Below w.heap.size w w4 := ob_below hb3 hown3 hz3 hg4))
  go_ret
  exact ⟨_, rfl, by simpa using hown4, hb4⟩
end Go.Proofs.YtgclegdgngldoaaDoor
set_option linter.unusedSimpArgs false
set_option linter.unusedVariables false
namespace Go.Proofs.YtgclegdgngldoaaDoor
open Go.RowKit

/-- the first i of n bytes are there -/
def fil (l : List (BitVec 8)) (n i : Nat) : List (BitVec 8) := l.take i ++ zs (n - i)
theorem fil_len (l : List (BitVec 8)) (n i : Nat) (hl : n ≤ l.length) (hi : i ≤ n) : (fil l n i).length = n := by simp [fil]; omega
theorem fil_set (l : List (BitVec 8)) (n i : Nat) (hl : n ≤ l.length) (hi : i < n) : (fil l n i).set i (l.getD i 0) = fil l n (i + 1) := by
  have e1 : (l.take i).length = i := by simp; omega
  have e2 : (zs (n - i) : List (BitVec 8)) = 0 :: zs (n - (i + 1)) := by unfold zs; rw [show n - i = (n - (i + 1)) + 1 by omega, List.replicate_succ]
  unfold fil
  rw [List.set_append_right _ _ (by omega), e1, Nat.sub_self, e2, List.set_cons_zero, take_succ_getD l 0 i (by omega), List.append_assoc]
  rfl
theorem fil_zero (l : List (BitVec 8)) (n : Nat) : fil l n 0 = zs n := by simp [fil]
theorem fil_all (l : List (BitVec 8)) (n : Nat) : fil l n n = l.take n := by simp [fil, zs]
attribute [local irreducible] fil
end Go.Proofs.YtgclegdgngldoaaDoor
set_option linter.unusedSimpArgs false
set_option linter.unusedVariables false
namespace Go.Proofs.YtgclegdgngldoaaDoor
open Go.RowKit

theorem padB_get (k : List (BitVec 8)) (x : BitVec 8) (i : Nat) (hi : i < 64) : (Sh.padB k x).getD i 0 = k.getD i 0 ^^^ x := by
  have hg : ∀ (l : List (BitVec 8)) (j : Nat), l.getD j 0 = (l[j]?).getD 0 := fun l j => List.getD_eq_getElem?_getD
  rw [hg, hg]
  unfold Sh.padB Sh.zeros
  rw [List.getElem?_map, List.getElem?_append]
  by_cases h : i < k.length
  · rw [if_pos h, List.getElem?_eq_getElem h]; rfl
  · rw [if_neg h, List.getElem?_eq_none (l := k) (by omega), List.getElem?_replicate, if_pos (by omega)]
    simp
theorem BS.getD_cell {w : World} {v : Value} {l : List (BitVec 8)} (h : BS w v l) {a : Option Addr} {n c : Nat} (e : v = .slice a n c) (i : Nat) (hi : i < l.length) : ∃ b o, a = some ⟨b, o, none⟩ ∧ w.cell? ⟨b, o + i, none⟩ = some (U8 (l.getD i 0)) := by
  obtain ⟨b, o, cap, e2, -, hc⟩ := h.open (by intro e; rw [e] at hi; simp at hi)
  rw [e] at e2
  injection e2 with e3 _ _
  exact ⟨b, o, e3, hc i hi⟩
theorem ob_pair {w w' : World} {B : Nat} {u u' v : Value} {b : List (BitVec 8)} (o : Obj) (hov : OB w B v b) (hsep : ∀ g, u.ownBlock = some g → v.ownBlock ≠ some g) (hg : (w.alloc o).grownBy w' u.ownBlock)
    (hd : u'.ownBlock = u.ownBlock ∨ u'.ownBlock = some (w.alloc o).heap.size) : OB w' B v b ∧ (∀ g, u'.ownBlock = some g → v.ownBlock ≠ some g) := by
  refine ⟨OB.kept (hov.alloc o) hg ?_, fun g h1 h2 => ?_⟩
  · cases hv : v.ownBlock with
    | none => exact .inl rfl
    | some g => exact .inr (fun e => hsep g e.symm hv)
  · rcases hd with hd | hd
    · exact hsep g (hd ▸ h1) h2
    · have h3 := (hov.lt g h2).2
      rw [h1] at hd
      injection hd with hd
      simp at hd; omega
theorem rsumD {w : World} {v : Value} {l D : List (BitVec 8)} (hD : D = Sh.sum l) (hv : BS w v l) (hn : l.length ≤ 1073741000) :
    Calls Tryd.prog 91 #[v] w fun e w' => e = .returned (.agg (cs U8 D)) ∧ Below w.heap.size w w' := by
  rw [hD]; exact rsum_any w v l hv hn
set_option maxRecDepth 100000 in
set_option maxHeartbeats 2000000 in
/-- the loop and what stands behind it -/
theorem rmac_any (w : World) (v0 v1 : Value) (k m : List (BitVec 8)) (h0 : BS w v0 k) (h1 : BS w v1 m) (hkl : k.length ≤ 1073740000) (hml : m.length ≤ 1073740000) :
    Calls Tryd.prog 68 #[v0, v1] w fun e w' => e = .returned (.agg (cs U8 (Sh.mac k m))) ∧ Below w.heap.size w w' := by
  obtain ⟨n, hn⟩ : ∃ n, n = k.length := ⟨_, rfl⟩
  obtain ⟨av, cv, rfl, hcv⟩ := h0.shape' n hn.symm
  obtain ⟨K, hK⟩ : ∃ K, K = Sh.key0 k := ⟨_, rfl⟩
  have hKl : K.length ≤ 64 := by rw [hK]; exact Sh.key0_len k
  obtain ⟨D, hD⟩ : ∃ D, D = Sh.sum (Sh.padB K 54 ++ m) := ⟨_, rfl⟩
  have hDl : D.length = 32 := by rw [hD]; rfl
  obtain ⟨E, hE⟩ : ∃ E, E = Sh.sum (Sh.padB K 92 ++ D) := ⟨_, rfl⟩
  have hEl : E.length = 32 := by rw [hE]; rfl
  have hmac : Sh.mac k m = E := by rw [hE, hD, hK]; rfl
  have hp1 : (Sh.padB K 54).length = 64 := Sh.padB_len _ _ hKl
  have hp2 : (Sh.padB K 92).length = 64 := Sh.padB_len _ _ hKl
  rw [hmac]
  have HN := hid hn; have HD := hid hD; have HE := hid hE; have HK := hid hK; have HP1 := hid hp1; have HP2 := hid hp2; have HEL := hid hEl; have HDL := hid hDl
  have ha : Below w.heap.size w (w.alloc (.cells (cs U8 (zs 32)) 23)) := (Below.refl _ _).alloc (Nat.le_refl _) _
  have hra : (w.alloc (.cells (cs U8 (zs 32)) 23)).rowOf w.heap.size = cs U8 (zs 32) := rowOf_alloc_at _ _ _ rfl
  have hfa : (w.alloc (.cells (cs U8 (zs 32)) 23)).free w.heap.size = true := free_alloc_at _ _ _ rfl
  have hsa : (w.alloc (.cells (cs U8 (zs 32)) 23)).heap.size = w.heap.size + 1 := by simp
  obtain ⟨wa, hwa⟩ : ∃ wa, wa = w.alloc (.cells (cs U8 (zs 32)) 23) := ⟨_, rfl⟩
  have HV0 : Hid (BS wa (.slice av n cv) k) := hid (by rw [hwa]; exact SV.alloc h0 _)
  have HV1 : Hid (BS wa v1 m) := hid (by rw [hwa]; exact SV.alloc h1 _)
  rw [← hwa] at ha hra hfa hsa
  have HWA := hid hwa
  have HRA := hid hra; have HFA := hid hfa
  clear hD hE hK hp1 hp2 hmac hn hwa hra hfa hEl hDl h0 h1
  by_cases h64 : (64 : Int) < n
  · obtain ⟨S, hS⟩ : ∃ S, S = Sh.sum k := ⟨_, rfl⟩
    have hSl : S.length = 32 := by rw [hS]; rfl
    have hKS : K = S := by rw [HK.out, hS]; unfold Sh.key0; rw [if_pos (by rw [← HN.out]; omega)]
    have HS := hid hS; have HKS := hid hKS; have HSL := hid hSl
    clear hS hKS hSl
    go_enter Tryd.func68, Tryd.ntmps68
    go_wp2_with fail
    rw [← HWA.out]
    with_reducible refine (rsumD HS.out HV0.out (by omega)).mono ?_
    rintro e w1 ⟨rfl, hb1⟩
    dsimp only
    go_wp2_with fail
    with_reducible refine (rbytes_any w1 S HSL.out).mono ?_
    rintro e wb ⟨uk, rfl, hok, hbb⟩
    obtain ⟨ak, ck, rfl, hck⟩ := hok.bs.shape' 32 HSL.out
    have HKN : Hid (K.length = 32) := hid (by rw [HKS.out]; exact HSL.out)
    have HVK : Hid (BS wb (.slice ak 32 ck) K) := hid (by rw [HKS.out]; exact hok.bs)
    have HBB : Hid (Below (w.heap.size + 1) wa wb) := hid (by rw [← hsa]; exact hb1.trans (hbb.mono hb1.size))
    have hzb : w.heap.size + 1 ≤ wb.heap.size := by have h1 := hb1.size; have h2 := hbb.size; omega
    clear hok hb1 hbb
    dsimp only
    go_wp2_with fail
    go_loopw [5, 6, 7, 8] (fun u v t _ wr => ∃ i : Nat, i ≤ 64 ∧ t = .int .i64 i ∧ OB wr wb.heap.size u ((Sh.padB K 54).take i) ∧ OB wr wb.heap.size v ((Sh.padB K 92).take i) ∧ (∀ g, u.ownBlock = some g → v.ownBlock ≠ some g) ∧ Below wb.heap.size wb wr) (fun _ _ t _ _ => 64 - (intOf t).toNat)
    case atStart => exact ⟨0, by omega, rfl, OB.nil _ _, OB.nil _ _, (fun g h => by cases h), Below.refl _ _⟩
    case round =>
      obtain ⟨i, hi, rfl, hou, hov, hsep, hbw⟩ := hrel
      have hz := hbw.size
      by_cases hlt : i < 64
      · have q0 : (0 : Int) ≤ i := by omega
        have q1 : (i : Int) < 64 := by omega
        have t1 := hid (take_succ_getD (Sh.padB K 54) 0 i (by rw [HP1.out]; exact hlt))
        have t2 := hid (take_succ_getD (Sh.padB K 92) 0 i (by rw [HP2.out]; exact hlt))
        have l1 : Hid (((Sh.padB K 54).take i).length + 1 ≤ 140737488355328) := hid (by simp; omega)
        have l2 : Hid (((Sh.padB K 92).take i).length + 1 ≤ 140737488355328) := hid (by simp; omega)
        obtain ⟨y, hy⟩ : ∃ y, y = K.getD i 0 := ⟨_, rfl⟩
        have g1 : Hid ((Sh.padB K 54).getD i 0 = y ^^^ 54) := hid (by rw [hy]; exact padB_get K 54 i hlt)
        have g2 : Hid ((Sh.padB K 92).getD i 0 = y ^^^ 92) := hid (by rw [hy]; exact padB_get K 92 i hlt)
        have HSEP := hid hsep
        clear hsep
        by_cases hik : i < 32
        · have HBK : BS wr (.slice ak 32 ck) K := SV.below HVK.out hbw
          obtain ⟨kb, ko, ka, hcell⟩ := HBK.getD_cell rfl i (by rw [HKN.out]; exact hik)
          rw [← hy] at hcell
          subst ka
          have q2 : (i : Int) < 32 := by omega
          clear hy HBK
          go_wp2_with (first
            | (refine wpList_apbd rfl (.tmp 27) (.tmp 30) rfl wb.heap.size _ _ ((Sh.padB K 54).take i) [(Sh.padB K 54).getD i 0] rfl (OB.alloc hou _) rfl (BS.one _ _ _ (by rw [g1.out]; rfl) _) l1.out (by simp; omega) ?_; rintro v3 w3 hown3 hg3 hd3; have hb3 : Below wb.heap.size wb w3 := ob_below1 _ hbw hou hz hg3; obtain ⟨hov3, hsep3⟩ := ob_pair _ hov HSEP.out hg3 hd3; have hz3 := hb3.size)
            | (refine wpList_apbd rfl (.tmp 32) (.tmp 35) rfl wb.heap.size _ _ ((Sh.padB K 92).take i) [(Sh.padB K 92).getD i 0] rfl (OB.alloc hov3 _) rfl (BS.one _ _ _ (by rw [g2.out]; rfl) _) l2.out (by simp; omega) ?_; rintro v4 w4 hown4 hg4 hd4; have hb4 : Below wb.heap.size wb w4 := ob_below1 _ hb3 hov3 hz3 hg4; obtain ⟨hou4, hsep4⟩ := ob_pair _ hown3 (fun g h1 h2 => hsep3 g h2 h1) hg4 hd4))
          go_roundw
          case rel => exact ⟨i + 1, by omega, by go_num, by rw [t1.out]; exact hou4, by rw [t2.out]; exact hown4, fun g h1 h2 => hsep4 g h2 h1, hb4⟩
          case measure => simp [intOf]; omega
        · have hz0 : y = 0 := by rw [hy, List.getD_eq_getElem?_getD, List.getElem?_eq_none (by rw [HKN.out]; omega)]; rfl
          have HZ0 := hid hz0
          have q2 : ¬ (i : Int) < 32 := by omega
          clear hz0 hy
          go_wp2_with (first
            | (refine wpList_apbd rfl (.tmp 27) (.tmp 30) rfl wb.heap.size _ _ ((Sh.padB K 54).take i) [(Sh.padB K 54).getD i 0] rfl (OB.alloc hou _) rfl (BS.one _ _ _ (by rw [g1.out, HZ0.out]; rfl) _) l1.out (by simp; omega) ?_; rintro v3 w3 hown3 hg3 hd3; have hb3 : Below wb.heap.size wb w3 := ob_below1 _ hbw hou hz hg3; obtain ⟨hov3, hsep3⟩ := ob_pair _ hov HSEP.out hg3 hd3; have hz3 := hb3.size)
            | (refine wpList_apbd rfl (.tmp 32) (.tmp 35) rfl wb.heap.size _ _ ((Sh.padB K 92).take i) [(Sh.padB K 92).getD i 0] rfl (OB.alloc hov3 _) rfl (BS.one _ _ _ (by rw [g2.out, HZ0.out]; rfl) _) l2.out (by simp; omega) ?_; rintro v4 w4 hown4 hg4 hd4; have hb4 : Below wb.heap.size wb w4 := ob_below1 _ hb3 hov3 hz3 hg4; obtain ⟨hou4, hsep4⟩ := ob_pair _ hown3 (fun g h1 h2 => hsep3 g h2 h1) hg4 hd4))
          go_roundw
          case rel => exact ⟨i + 1, by omega, by go_num, by rw [t1.out]; exact hou4, by rw [t2.out]; exact hown4, fun g h1 h2 => hsep4 g h2 h1, hb4⟩
          case measure => simp [intOf]; omega
      · have hi64 : i = 64 := by omega
        subst hi64
        have e1 : (Sh.padB K 54).take 64 = Sh.padB K 54 := List.take_of_length_le (by rw [HP1.out]; exact Nat.le_refl _)
        have e2 : (Sh.padB K 92).take 64 = Sh.padB K 92 := List.take_of_length_le (by rw [HP2.out]; exact Nat.le_refl _)
        rw [e1] at hou; rw [e2] at hov
        have HOU := hid hou.bs; have HOV := hid hov.bs
        clear e1 e2 hou hov
        have HM1 : Hid (BS wr v1 m) := hid (BS.below (BS.below HV1.out (by rw [hsa]; exact HBB.out)) hbw)
        go_wp2_with fail
        with_reducible refine (rjoin_any wr _ _ (Sh.padB K 54) m HOU.out HM1.out (by rw [HP1.out]; omega)).mono ?_
        rintro e w2 ⟨u2, rfl, ho2, hb2⟩
        dsimp only
        go_wp2_with fail
        with_reducible refine (rsumD HD.out ho2.bs (by rw [List.length_append, HP1.out]; omega)).mono ?_
        rintro e w3 ⟨rfl, hb3⟩
        dsimp only
        go_wp2_with fail
        with_reducible refine (rbytes_any w3 D HDL.out).mono ?_
        rintro e w4 ⟨u4, rfl, ho4, hb4⟩
        have hb24 : Below wr.heap.size wr w4 := (hb2.trans (hb3.mono hb2.size)).trans (hb4.mono (Nat.le_trans hb2.size hb3.size))
        dsimp only
        go_wp2_with fail
        with_reducible refine (rjoin_any w4 _ _ (Sh.padB K 92) D (BS.below HOV.out hb24) ho4.bs (by rw [HP2.out, HDL.out]; omega)).mono ?_
        rintro e w5 ⟨u5, rfl, ho5, hb5⟩
        dsimp only
        go_wp2_with fail
        with_reducible refine (rsumD HE.out ho5.bs (by rw [List.length_append, HP2.out, HDL.out]; omega)).mono ?_
        rintro e w6 ⟨rfl, hb6⟩
        have hb26 : Below wr.heap.size wr w6 := (hb24.trans (hb5.mono hb24.size)).trans (hb6.mono (Nat.le_trans hb24.size hb5.size))
        have HB6 := hid (HBB.out.trans ((hbw.trans (hb26.mono hz)).mono hzb))
        have r6 : w6.rowOf w.heap.size = cs U8 (zs 32) := (below_row HB6.out (by omega)).trans HRA.out
        have f6 : w6.free w.heap.size = true := (below_free HB6.out (by omega)).trans HFA.out
        have hEl := HEL.out
        clear hb2 hb3 hb4 hb5 hb6 hb24 hb26 hbw
        dsimp only
        go_wp2_with fail
        refine bodyPost_ret (res_row (b := w.heap.size) rfl Tryd.underlying23 rfl inf_key _ _ rfl ?_) rfl ?_
        · rw [rowOf_setRow_same _ f6, cs_size]; exact hEl
        · rw [rowOf_setRow_same _ f6]
          exact ⟨rfl, below_setRow' (ha.trans (HB6.out.mono (by omega))) (Nat.le_refl _) _⟩
  · have hKS : K = k := by rw [HK.out]; unfold Sh.key0; rw [if_neg (by rw [← HN.out]; omega)]
    have HKS := hid hKS
    clear hKS
    go_enter Tryd.func68, Tryd.ntmps68
    go_wp2_with fail
    rw [← HWA.out]
    obtain ⟨wb, hwb⟩ : ∃ wb, wb = wa := ⟨_, rfl⟩
    have HKN : Hid (K.length = n) := hid (by rw [HKS.out]; exact HN.out.symm)
    have HVK : Hid (BS wb (.slice av n cv) K) := hid (by rw [HKS.out, hwb]; exact HV0.out)
    have HBB : Hid (Below (w.heap.size + 1) wa wb) := hid (by rw [hwb]; exact Below.refl _ _)
    have hzb : w.heap.size + 1 ≤ wb.heap.size := by rw [hwb]; omega
    rw [← hwb]
    clear hwb
    go_loopw [5, 6, 7, 8] (fun u v t _ wr => ∃ i : Nat, i ≤ 64 ∧ t = .int .i64 i ∧ OB wr wb.heap.size u ((Sh.padB K 54).take i) ∧ OB wr wb.heap.size v ((Sh.padB K 92).take i) ∧ (∀ g, u.ownBlock = some g → v.ownBlock ≠ some g) ∧ Below wb.heap.size wb wr) (fun _ _ t _ _ => 64 - (intOf t).toNat)
    case atStart => exact ⟨0, by omega, rfl, OB.nil _ _, OB.nil _ _, (fun g h => by cases h), Below.refl _ _⟩
    case round =>
      obtain ⟨i, hi, rfl, hou, hov, hsep, hbw⟩ := hrel
      have hz := hbw.size
      by_cases hlt : i < 64
      · have q0 : (0 : Int) ≤ i := by omega
        have q1 : (i : Int) < 64 := by omega
        have t1 := hid (take_succ_getD (Sh.padB K 54) 0 i (by rw [HP1.out]; exact hlt))
        have t2 := hid (take_succ_getD (Sh.padB K 92) 0 i (by rw [HP2.out]; exact hlt))
        have l1 : Hid (((Sh.padB K 54).take i).length + 1 ≤ 140737488355328) := hid (by simp; omega)
        have l2 : Hid (((Sh.padB K 92).take i).length + 1 ≤ 140737488355328) := hid (by simp; omega)
        obtain ⟨y, hy⟩ : ∃ y, y = K.getD i 0 := ⟨_, rfl⟩
        have g1 : Hid ((Sh.padB K 54).getD i 0 = y ^^^ 54) := hid (by rw [hy]; exact padB_get K 54 i hlt)
        have g2 : Hid ((Sh.padB K 92).getD i 0 = y ^^^ 92) := hid (by rw [hy]; exact padB_get K 92 i hlt)
        have HSEP := hid hsep
        clear hsep
        by_cases hik : i < n
        · have HBK : BS wr (.slice av n cv) K := SV.below HVK.out hbw
          obtain ⟨kb, ko, ka, hcell⟩ := HBK.getD_cell rfl i (by rw [HKN.out]; exact hik)
          rw [← hy] at hcell
          subst ka
          have q2 : (i : Int) < n := by omega
          clear hy HBK
          go_wp2_with (first
            | (refine wpList_apbd rfl (.tmp 27) (.tmp 30) rfl wb.heap.size _ _ ((Sh.padB K 54).take i) [(Sh.padB K 54).getD i 0] rfl (OB.alloc hou _) rfl (BS.one _ _ _ (by rw [g1.out]; rfl) _) l1.out (by simp; omega) ?_; rintro v3 w3 hown3 hg3 hd3; have hb3 : Below wb.heap.size wb w3 := ob_below1 _ hbw hou hz hg3; obtain ⟨hov3, hsep3⟩ := ob_pair _ hov HSEP.out hg3 hd3; have hz3 := hb3.size)
            | (refine wpList_apbd rfl (.tmp 32) (.tmp 35) rfl wb.heap.size _ _ ((Sh.padB K 92).take i) [(Sh.padB K 92).getD i 0] rfl (OB.alloc hov3 _) rfl (BS.one _ _ _ (by rw [g2.out]; rfl) _) l2.out (by simp; omega) ?_; rintro v4 w4 hown4 hg4 hd4; have hb4 : Below wb.heap.size wb w4 := ob_below1 _ hb3 hov3 hz3 hg4; obtain ⟨hou4, hsep4⟩ := ob_pair _ hown3 (fun g h1 h2 => hsep3 g h2 h1) hg4 hd4))
          go_roundw
          case rel => exact ⟨i + 1, by omega, by go_num, by rw [t1.out]; exact hou4, by rw [t2.out]; exact hown4, fun g h1 h2 => hsep4 g h2 h1, hb4⟩
          case measure => simp [intOf]; omega
        · have hz0 : y = 0 := by rw [hy, List.getD_eq_getElem?_getD, List.getElem?_eq_none (by rw [HKN.out]; omega)]; rfl
          have HZ0 := hid hz0
          have q2 : ¬ (i : Int) < n := by omega
          clear hz0 hy
          go_wp2_with (first
            | (refine wpList_apbd rfl (.tmp 27) (.tmp 30) rfl wb.heap.size _ _ ((Sh.padB K 54).take i) [(Sh.padB K 54).getD i 0] rfl (OB.alloc hou _) rfl (BS.one _ _ _ (by rw [g1.out, HZ0.out]; rfl) _) l1.out (by simp; omega) ?_; rintro v3 w3 hown3 hg3 hd3; have hb3 : Below wb.heap.size wb w3 := ob_below1 _ hbw hou hz hg3; obtain ⟨hov3, hsep3⟩ := ob_pair _ hov HSEP.out hg3 hd3; have hz3 := hb3.size)
            | (refine wpList_apbd rfl (.tmp 32) (.tmp 35) rfl wb.heap.size _ _ ((Sh.padB K 92).take i) [(Sh.padB K 92).getD i 0] rfl (OB.alloc hov3 _) rfl (BS.one _ _ _ (by rw [g2.out, HZ0.out]; rfl) _) l2.out (by simp; omega) ?_; rintro v4 w4 hown4 hg4 hd4; have hb4 : Below wb.heap.size wb w4 := ob_below1 _ hb3 hov3 hz3 hg4; obtain ⟨hou4, hsep4⟩ := ob_pair _ hown3 (fun g h1 h2 => hsep3 g h2 h1) hg4 hd4))
          go_roundw
          case rel => exact ⟨i + 1, by omega, by go_num, by rw [t1.out]; exact hou4, by rw [t2.out]; exact hown4, fun g h1 h2 => hsep4 g h2 h1, hb4⟩
          case measure => simp [intOf]; omega
      · have hi64 : i = 64 := by omega
        subst hi64
        have e1 : (Sh.padB K 54).take 64 = Sh.padB K 54 := List.take_of_length_le (by rw [HP1.out]; exact Nat.le_refl _)
        have e2 : (Sh.padB K 92).take 64 = Sh.padB K 92 := List.take_of_length_le (by rw [HP2.out]; exact Nat.le_refl _)
        rw [e1] at hou; rw [e2] at hov
        have HOU := hid hou.bs; have HOV := hid hov.bs
        clear e1 e2 hou hov
        have HM1 : Hid (BS wr v1 m) := hid (BS.below (BS.below HV1.out (by rw [hsa]; exact HBB.out)) hbw)
        go_wp2_with fail
        with_reducible refine (rjoin_any wr _ _ (Sh.padB K 54) m HOU.out HM1.out (by rw [HP1.out]; omega)).mono ?_
        rintro e w2 ⟨u2, rfl, ho2, hb2⟩
        dsimp only
        go_wp2_with fail
        with_reducible refine (rsumD HD.out ho2.bs (by rw [List.length_append, HP1.out]; omega)).mono ?_
        rintro e w3 ⟨rfl, hb3⟩
        dsimp only
        go_wp2_with fail
        with_reducible refine (rbytes_any w3 D HDL.out).mono ?_
        rintro e w4 ⟨u4, rfl, ho4, hb4⟩
        have hb24 : Below wr.heap.size wr w4 := (hb2.trans (hb3.mono hb2.size)).trans (hb4.mono (Nat.le_trans hb2.size hb3.size))
        dsimp only
        go_wp2_with fail
        with_reducible refine (rjoin_any w4 _ _ (Sh.padB K 92) D (BS.below HOV.out hb24) ho4.bs (by rw [HP2.out, HDL.out]; omega)).mono ?_
        rintro e w5 ⟨u5, rfl, ho5, hb5⟩
        dsimp only
        go_wp2_with fail
        with_reducible refine (rsumD HE.out ho5.bs (by rw [List.length_append, HP2.out, HDL.out]; omega)).mono ?_
        rintro e w6 ⟨rfl, hb6⟩
        have hb26 : Below wr.heap.size wr w6 := (hb24.trans (hb5.mono hb24.size)).trans (hb6.mono (Nat.le_trans hb24.size hb5.size))
        have HB6 := hid (HBB.out.trans ((hbw.trans (hb26.mono hz)).mono hzb))
        have r6 : w6.rowOf w.heap.size = cs U8 (zs 32) := (below_row HB6.out (by omega)).trans HRA.out
        have f6 : w6.free w.heap.size = true := (below_free HB6.out (by omega)).trans HFA.out
        have hEl := HEL.out
        clear hb2 hb3 hb4 hb5 hb6 hb24 hb26 hbw
        dsimp only
        go_wp2_with fail
        refine bodyPost_ret (res_row (b := w.heap.size) rfl Tryd.underlying23 rfl inf_key _ _ rfl ?_) rfl ?_
        · rw [rowOf_setRow_same _ f6, cs_size]; exact hEl
        · rw [rowOf_setRow_same _ f6]
          exact ⟨rfl, below_setRow' (ha.trans (HB6.out.mono (by omega))) (Nat.le_refl _) _⟩
end Go.Proofs.YtgclegdgngldoaaDoor
set_option linter.unusedSimpArgs false
set_option linter.unusedVariables false
namespace Go.Proofs.YtgclegdgngldoaaDoor
open Go.RowKit

theorem okm_len (k i : List (BitVec 8)) : ∀ n, (Sh.okm k i n).length = 32 * n
  | 0 => rfl
  | n + 1 => by
    have h : (Sh.tb k i (n + 1)).length = 32 := rfl
    rw [Sh.okm, List.length_append, okm_len k i n, h]; omega
theorem tb_len (k i : List (BitVec 8)) (n : Nat) : (Sh.tb k i n).length ≤ 32 := by
  cases n with
  | zero => exact Nat.zero_le _
  | succ n => exact Nat.le_refl 32
theorem byte_j (j : Nat) (h : j + 1 ≤ 255) : Value.int .u8 ((j : Int) + 1) = U8 (BitVec.ofNat 8 (j + 1)) := by
  unfold U8; rw [BitVec.toNat_ofNat, Nat.mod_eq_of_lt (by omega)]; rfl
theorem rmacD {w : World} {v0 v1 : Value} {k m D : List (BitVec 8)} (hD : D = Sh.mac k m) (h0 : BS w v0 k) (h1 : BS w v1 m) (hkl : k.length ≤ 1073740000) (hml : m.length ≤ 1073740000) :
    Calls Tryd.prog 68 #[v0, v1] w fun e w' => e = .returned (.agg (cs U8 D)) ∧ Below w.heap.size w w' := by
  rw [hD]; exact rmac_any w v0 v1 k m h0 h1 hkl hml
set_option maxHeartbeats 400000 in
theorem rexpand_bad (w : World) (l : List (BitVec 8)) (v : Value) (n : Int) (hn : n < 0 ∨ 8160 < n) :
    Calls Tryd.prog 74 #[.agg (cs U8 l), v, .int .i64 n] w fun e w' => e = .returned (.tuple #[.slice none 0 0, .int .i64 3]) ∧ Below w.heap.size w w' := by
  by_cases h0 : n < 0
  · go_enter Tryd.func74, Tryd.ntmps74
    go_wp2_with fail
    go_ret2
    exact ⟨rfl, (Below.refl _ _).alloc (Nat.le_refl _) _⟩
  · have h1 : 8160 < n := by omega
    go_enter Tryd.func74, Tryd.ntmps74
    go_wp2_with fail
    go_ret2
    exact ⟨rfl, (Below.refl _ _).alloc (Nat.le_refl _) _⟩
set_option maxRecDepth 100000 in
set_option maxHeartbeats 2000000 in
theorem rexpand_any (w : World) (l info : List (BitVec 8)) (v : Value) (n : Nat) (hl : l.length = 32) (hv : BS w v info) (hil : info.length ≤ 1073730000) (hn : n ≤ 8160) :
    Calls Tryd.prog 74 #[.agg (cs U8 l), v, .int .i64 n] w fun e w' => ∃ u, e = .returned (.tuple #[u, .int .i64 0]) ∧ BS w' u (Sh.expand l info n) ∧ Below w.heap.size w w' := by
  have ha : Below w.heap.size w (w.alloc (.cells (cs U8 l) 23)) := (Below.refl _ _).alloc (Nat.le_refl _) _
  have hra : (w.alloc (.cells (cs U8 l) 23)).rowOf w.heap.size = cs U8 l := rowOf_alloc_at _ _ _ rfl
  have hsa : (w.alloc (.cells (cs U8 l) 23)).heap.size = w.heap.size + 1 := by simp
  have hva : BS (w.alloc (.cells (cs U8 l) 23)) v info := hv.below ha
  obtain ⟨wa, hwa⟩ : ∃ wa, wa = w.alloc (.cells (cs U8 l) 23) := ⟨_, rfl⟩
  rw [← hwa] at ha hra hsa hva
  have HWA := hid hwa; have HRA := hid hra; have HVA := hid hva; have HL := hid hl
  clear hwa hra hva hv hl
  have n0 : ¬ (n : Int) < 0 := by omega
  have n1 : ¬ (8160 : Int) < n := by omega
  go_enter Tryd.func74, Tryd.ntmps74
  go_wp2_with fail
  rw [← HWA.out]
  go_loopw [8, 9, 10] (fun u t c wr => ∃ j : Nat, j ≤ 255 ∧ 32 * j < n + 32 ∧ c = .int .i64 ((j : Int) + 1) ∧ OB wr (w.heap.size + 1) u (Sh.okm l info j) ∧ BS wr t (Sh.tb l info j) ∧ Below (w.heap.size + 1) wa wr) (fun _ _ c _ => 300 - (intOf c).toNat)
  case atStart => exact ⟨0, by omega, by omega, rfl, OB.nil _ _, (OB.nil _ (w.heap.size + 1)).bs, Below.refl _ _⟩
  case round =>
    obtain ⟨j, hj, hjn, rfl, hou, hbt, hbw⟩ := hrel
    have hz := hbw.size
    obtain ⟨au, cu, rfl, hcu⟩ := hou.bs.shape' (32 * j) (okm_len l info j)
    by_cases hlt : 32 * j < n
    · have hj1 : j + 1 ≤ 255 := by omega
      obtain ⟨D, hD⟩ : ∃ D, D = Sh.tb l info (j + 1) := ⟨_, rfl⟩
      have hDl : D.length = 32 := by rw [hD]; rfl
      have hDm : D = Sh.mac l (Sh.tb l info j ++ info ++ [BitVec.ofNat 8 (j + 1)]) := by rw [hD]; rfl
      have hok : Sh.okm l info (j + 1) = Sh.okm l info j ++ D := by rw [hD]; rfl
      have hr3 : wr.rowOf w.heap.size = cs U8 l := (below_row hbw (by omega)).trans HRA.out
      have hrs : (wr.rowOf w.heap.size).size = 32 := by rw [hr3, cs_size]; exact HL.out
      have HR3 := hid hr3; have HDM := hid hDm; have HOK := hid hok; have HDL := hid hDl; have HD := hid hD
      have HBT := hid hbt; have HOU := hid hou
      have HJ := hid (byte_j j hj1)
      have q0 : (32 * (j : Int)) < n := by omega
      have q2 : (0 : Int) ≤ (j : Int) + 1 := by omega
      have q3 : (j : Int) + 1 ≤ 255 := by omega
      clear hr3 hDm hok hDl hD hbt hou
      go_wp2_with fail
      rw [HR3.out]
      with_reducible refine (rbytes_any wr l HL.out).mono ?_
      rintro e w1 ⟨u1, rfl, ho1, hb1⟩
      dsimp only
      go_wp2_with fail
      have hb1' : Below (w.heap.size + 1) wa w1 := hbw.trans (hb1.mono (by omega))
      with_reducible refine (rjoin_any w1 _ _ (Sh.tb l info j) info (HBT.out.below hb1) (BS.below HVA.out (by rw [hsa]; exact hb1')) (by have := tb_len l info j; omega)).mono ?_
      rintro e w2 ⟨u2, rfl, ho2, hb2⟩
      have hz1 := hb1.size; have hz2 := hb2.size
      dsimp only
      go_wp2_with (refine wpList_apb rfl (.tmp 27) (.tmp 30) rfl w1.heap.size _ _ (Sh.tb l info j ++ info) [BitVec.ofNat 8 (j + 1)] rfl (OB.alloc ho2 _) rfl (BS.one _ _ _ HJ.out _) (by have := tb_len l info j; simp; omega) (by simp; omega) ?_; rintro v3 w3 hown3 hg3 -; have hb3 : Below w1.heap.size w1 w3 := ob_below1 _ hb2 ho2 hz2 hg3)
      have hz3 := hb3.size
      with_reducible refine (rmacD HDM.out (ho1.bs.below hb3) hown3.bs (by rw [HL.out]; decide) (by have := tb_len l info j; simp only [List.length_append, List.length_cons, List.length_nil]; omega)).mono ?_
      rintro e w4 ⟨rfl, hb4⟩
      have hz4 := hb4.size
      dsimp only
      go_wp2_with fail
      with_reducible refine (rbytes_any w4 D HDL.out).mono ?_
      rintro e w5 ⟨u5, rfl, ho5, hb5⟩
      have hz5 := hb5.size
      have hbr5 : Below wr.heap.size wr w5 := ((hb1.trans (hb3.mono hz1)).trans (hb4.mono (by omega))).trans (hb5.mono (by omega))
      have hou5 : OB w5 (w.heap.size + 1) (.slice au (32 * j) cu) (Sh.okm l info j) := HOU.out.fr (Fr.of_below hbr5) (fun _ _ h => h)
      have hbw5 : Below (w.heap.size + 1) wa w5 := hbw.trans (hbr5.mono (by omega))
      have HSEP : Hid (u5.ownBlock = none ∨ u5.ownBlock ≠ (Value.slice au (32 * j) cu).ownBlock) := hid (by
        cases hx : u5.ownBlock with
        | none => exact .inl rfl
        | some g => exact .inr (fun e => by have h1 := (ho5.lt g hx).1; have h2 := (HOU.out.lt g e.symm).2; omega))
      dsimp only
      go_wp2_with (refine wpList_apb rfl (.tmp 34) (.tmp 35) rfl (w.heap.size + 1) _ _ (Sh.okm l info j) D rfl hou5 rfl ho5.bs (by rw [okm_len, HDL.out]; omega) (by omega) ?_; rintro v6 w6 hown6 hg6 -; have hb6 : Below (w.heap.size + 1) wa w6 := ob_below hbw5 hou5 (by omega) hg6)
      go_roundw
      case rel => exact ⟨j + 1, by omega, by omega, by go_num, by rw [HOK.out]; exact hown6, by rw [← HD.out]; exact (OB.kept ho5 hg6 HSEP.out).bs, hb6⟩
      case measure => simp [intOf]; omega
    · have q0 : ¬ (32 * (j : Int)) < n := by omega
      have hjj : j = (n + 31) / 32 := by omega
      have HE : Hid ((Sh.okm l info j).take n = Sh.expand l info n) := hid (by rw [hjj]; rfl)
      have hle : n ≤ 32 * j := by omega
      have hh := hou.bs.headn (okm_len l info j) n cu hle (by omega) (Nat.le_refl _)
      rw [HE.out] at hh
      have HH := hid hh
      have q1 : (n : Int) ≤ cu := by omega
      have q2 : (0 : Int) ≤ n := by omega
      clear hh hou hbt hjj
      go_wp2_with fail
      go_ret2
      exact ⟨_, rfl, HH.out, ha.trans (hbw.mono (by omega))⟩
end Go.Proofs.YtgclegdgngldoaaDoor
set_option linter.unusedSimpArgs false
set_option linter.unusedVariables false
namespace Go.Proofs.YtgclegdgngldoaaDoor
open Go.RowKit

attribute [go_sem] cs_extract
theorem take_eq_succ {a b : List (BitVec 8)} {i : Nat} (ha : i < a.length) (hb : i < b.length) : a.take (i + 1) = b.take (i + 1) ↔ a.take i = b.take i ∧ a.getD i 0 = b.getD i 0 := by
  rw [take_succ_getD a 0 i ha, take_succ_getD b 0 i hb]
  constructor
  · intro h
    have := List.append_inj h (by simp; omega)
    exact ⟨this.1, by simpa using this.2⟩
  · rintro ⟨h1, h2⟩; rw [h1, h2]
theorem or_xor_zero (d x y : BitVec 8) : d ||| (x ^^^ y) = 0 ↔ d = 0 ∧ x = y := by
  show d ||| (x ^^^ y) = 0#8 ↔ d = 0#8 ∧ x = y
  rw [BitVec.or_eq_zero_iff]
  constructor
  · rintro ⟨h1, h2⟩; exact ⟨h1, BitVec.xor_eq_zero_iff.1 h2⟩
  · rintro ⟨h1, h2⟩; exact ⟨h1, BitVec.xor_eq_zero_iff.2 h2⟩
set_option maxHeartbeats 1000000 in
theorem extract_any (w : World) (v0 v1 : Value) (k m : List (BitVec 8)) (hT : KT w) (hk0 : 0 < w.heap.size) (h0 : BS w v0 k) (h1 : BS w v1 m) (hkl : k.length ≤ 1073741000) (hml : m.length ≤ 1073741000) :
    Calls Tryd.prog 51 #[v0, v1] w fun e w' => e = .returned (.agg (cs U8 (Sh.mac k m))) ∧ Below w.heap.size w w' := by
  obtain ⟨D, hD⟩ : ∃ D, D = Sh.mac k m := ⟨_, rfl⟩
  have hDl : D.length = 32 := by rw [hD]; rfl
  rw [← hD]
  have HD := hid hD
  have ha : Below w.heap.size w (w.alloc (.cells (cs U8 (zs 32)) 23)) := (Below.refl _ _).alloc (Nat.le_refl _) _
  have hC := mac_any _ v0 v1 k m (hT.below ha hk0) (by have := ha.size; omega) (SV.below h0 ha) (SV.below h1 ha) hkl hml
  rw [← hD] at hC
  have HC := hid hC
  clear hD hC h0 h1
  go_enter Tryd.func51, Tryd.ntmps51
  go_wp2_with fail
  with_reducible refine (HC.out).mono ?_
  rintro e w1 ⟨rfl, hb1⟩
  have hr1 : w1.rowOf w.heap.size = cs U8 (zs 32) := (below_row hb1 (by simp)).trans (rowOf_alloc_at _ _ _ rfl)
  have hf1 : w1.free w.heap.size = true := (below_free hb1 (by simp)).trans (free_alloc_at _ _ _ rfl)
  have HB := hid (ha.trans (hb1.mono (by simp)))
  clear hb1 ha
  dsimp only
  go_wp2_with fail
  refine bodyPost_ret (res_row (b := w.heap.size) rfl Tryd.underlying23 rfl inf_key _ _ rfl ?_) rfl ?_
  · rw [rowOf_setRow_same _ hf1]; simp [hDl]
  · rw [rowOf_setRow_same _ hf1]
    exact ⟨rfl, below_setRow' HB.out (Nat.le_refl _) _⟩
end Go.Proofs.YtgclegdgngldoaaDoor
set_option linter.unusedSimpArgs false
set_option linter.unusedVariables false
namespace Go.Proofs.YtgclegdgngldoaaDoor
open Go.RowKit

theorem macD {w : World} {v0 v1 : Value} {k m D : List (BitVec 8)} (hD : D = Sh.mac k m) (hT : KT w) (hk0 : 0 < w.heap.size) (h0 : BS w v0 k) (h1 : BS w v1 m) (hkl : k.length ≤ 1073741000) (hml : m.length ≤ 1073741000) :
    Calls Tryd.prog 64 #[v0, v1] w fun e w' => e = .returned (.agg (cs U8 D)) ∧ Below w.heap.size w w' := by
  rw [hD]; exact mac_any w v0 v1 k m hT hk0 h0 h1 hkl hml
theorem byte_1 (j : Nat) : BitVec.ofNat 8 (j + 1) + 1#8 = BitVec.ofNat 8 (j + 1 + 1) := by
  apply BitVec.eq_of_toNat_eq
  simp [BitVec.toNat_add, BitVec.toNat_ofNat]
theorem BS.alloc {w : World} {v : Value} {l : List (BitVec 8)} (h : BS w v l) (o : Obj) : BS (w.alloc o) v l := SV.alloc h o
theorem BS.oneAt {w : World} {g : Nat} {u : Value} {x : BitVec 8} (h : w.rowOf g = #[u]) (hu : u = U8 x) : BS w (.slice (some ⟨g, 0, none⟩) 1 1) [x] := by
  subst hu
  refine ⟨_, 1, rfl, Nat.le_refl _, by unfold maxLen; omega, fun _ => ⟨_, _, rfl, fun i hi => ?_⟩⟩
  simp at hi
  subst hi
  rw [cell_rowOf, h]; rfl
theorem below_al {B : Nat} {w0 w : World} (h : Below B w0 w) (hB : B ≤ w0.heap.size) (o : Obj) : Below B w0 (w.alloc o) := h.alloc (Nat.le_trans hB h.size) o
theorem below_dr {B : Nat} {w0 w : World} (h : Below B w0 w) : Below B w0 w.drew := below_drewN h 1
theorem fin_set {w0 w5 : World} {B g : Nat} {D : List (BitVec 8)} (hf : w5.free g = true) (hl : D.length = 32) (hg : B ≤ g) (hb : Below B w0 w5) :
    ∃ wz, wz = w5.setRow g (cs U8 D) ∧ BS wz (.slice (some ⟨g, 0, none⟩) 32 32) D ∧ Below B w0 wz :=
  ⟨_, rfl, BS.row (rowOf_setRow_same _ hf) hl (by unfold maxLen; decide), below_setRow' hb hg _⟩
theorem fin_new {w0 w5 : World} {B : Nat} {D : List (BitVec 8)} (hl : D.length = 32) (hg : B ≤ w5.heap.size) (hb : Below B w0 w5) (T : TypeId) :
    ∃ wz, wz = w5.alloc (.cells (cs U8 D) T) ∧ BS wz (.slice (some ⟨w5.heap.size, 0, none⟩) 32 32) D ∧ Below B w0 wz :=
  ⟨_, rfl, BS.row (rowOf_alloc_at _ _ _ rfl) hl (by unfold maxLen; decide), hb.alloc hg _⟩
set_option maxHeartbeats 400000 in
theorem expand_bad (w : World) (l : List (BitVec 8)) (v : Value) (n : Int) (hn : n < 0 ∨ 8160 < n) :
    Calls Tryd.prog 71 #[.agg (cs U8 l), v, .int .i64 n] w fun e w' => e = .returned (.tuple #[.slice none 0 0, .int .i64 3]) ∧ Below w.heap.size w w' := by
  by_cases h0 : n < 0
  · go_enter Tryd.func71, Tryd.ntmps71
    go_wp2_with fail
    go_ret2
    exact ⟨rfl, (Below.refl _ _).alloc (Nat.le_refl _) _⟩
  · have h1 : 8160 < n := by omega
    go_enter Tryd.func71, Tryd.ntmps71
    go_wp2_with fail
    go_ret2
    exact ⟨rfl, (Below.refl _ _).alloc (Nat.le_refl _) _⟩
set_option maxRecDepth 100000 in
set_option maxHeartbeats 4000000 in
theorem expand_any (w : World) (l info : List (BitVec 8)) (v : Value) (n : Nat) (hT : KT w) (hk0 : 0 < w.heap.size) (hl : l.length = 32) (hv : BS w v info) (hil : info.length ≤ 1073730000) (hn : n ≤ 8160) :
    Calls Tryd.prog 71 #[.agg (cs U8 l), v, .int .i64 n] w fun e w' => ∃ u, e = .returned (.tuple #[u, .int .i64 0]) ∧ BS w' u (Sh.expand l info n) ∧ Below w.heap.size w w' := by
  have ha : Below w.heap.size w (w.alloc (.cells (cs U8 l) 23)) := (Below.refl _ _).alloc (Nat.le_refl _) _
  have hra : (w.alloc (.cells (cs U8 l) 23)).rowOf w.heap.size = cs U8 l := rowOf_alloc_at _ _ _ rfl
  have hsa : (w.alloc (.cells (cs U8 l) 23)).heap.size = w.heap.size + 1 := by simp
  have hva : BS (w.alloc (.cells (cs U8 l) 23)) v info := hv.below ha
  have hta : KT (w.alloc (.cells (cs U8 l) 23)) := hT.below ha hk0
  obtain ⟨wa, hwa⟩ : ∃ wa, wa = w.alloc (.cells (cs U8 l) 23) := ⟨_, rfl⟩
  rw [← hwa] at ha hra hsa hva hta
  have HWA := hid hwa; have HRA := hid hra; have HVA := hid hva; have HL := hid hl; have HTA := hid hta
  clear hwa hra hva hv hl hta hT
  have n0 : ¬ (n : Int) < 0 := by omega
  have n1 : ¬ (8160 : Int) < n := by omega
  go_enter Tryd.func71, Tryd.ntmps71
  go_wp2_with fail
  rw [← HWA.out]
  go_loopw [8, 9, 10, 11, 12] (fun u t c _ _ wr => ∃ j : Nat, j ≤ 255 ∧ 32 * j < n + 32 ∧ c = U8 (BitVec.ofNat 8 (j + 1)) ∧ OB wr (w.heap.size + 1) u (Sh.okm l info j) ∧ BS wr t (Sh.tb l info j) ∧ Below (w.heap.size + 1) wa wr) (fun u _ _ _ _ _ => n - (match u with | .slice _ k _ => k | _ => 0))
  case atStart => exact ⟨0, by omega, by omega, rfl, OB.nil _ _, (OB.nil _ (w.heap.size + 1)).bs, Below.refl _ _⟩
  case round =>
    obtain ⟨j, hj, hjn, rfl, hou, hbt, hbw⟩ := hrel
    have hz := hbw.size
    obtain ⟨au, cu, rfl, hcu⟩ := hou.bs.shape' (32 * j) (okm_len l info j)
    by_cases hlt : 32 * j < n
    · have hj1 : j + 1 ≤ 255 := by omega
      obtain ⟨D, hD⟩ : ∃ D, D = Sh.tb l info (j + 1) := ⟨_, rfl⟩
      have hDl : D.length = 32 := by rw [hD]; rfl
      have hDm : D = Sh.mac l (Sh.tb l info j ++ info ++ [BitVec.ofNat 8 (j + 1)]) := by rw [hD]; rfl
      have hok : Sh.okm l info (j + 1) = Sh.okm l info j ++ D := by rw [hD]; rfl
      have hr3 : wr.rowOf w.heap.size = cs U8 l := (below_row hbw (by omega)).trans HRA.out
      have HR3 := hid hr3; have HDM := hid hDm; have HOK := hid hok; have HDL := hid hDl; have HD := hid hD
      have HBT := hid hbt; have HOU := hid hou
      have HJ := hid (byte_1 j)
      have q0 : (32 * (j : Int)) < n := by omega
      clear hr3 hDm hok hDl hD hbt hou
      go_wp2_with (first
        | (refine wpList_apb rfl (.const (.slice none 0 0)) (.tmp 25) rfl wr.heap.size _ _ [] (Sh.tb l info j) rfl (OB.nil _ _) rfl HBT.out (by have := tb_len l info j; simp; omega) (Nat.le_refl _) ?_; rintro v1 w1 hown1 hg1 -; have hb1 : Below wr.heap.size wr w1 := ob_below (Below.refl _ _) (OB.nil _ _) (Nat.le_refl _) hg1; have hz1 := hb1.size; have HV1 := hid (BS.below (BS.below HVA.out (by rw [hsa]; exact hbw)) hb1))
        | (refine wpList_apb rfl (.tmp 27) (.tmp 28) rfl wr.heap.size _ _ ([] ++ Sh.tb l info j) info rfl hown1 rfl HV1.out (by have := tb_len l info j; simp; omega) hz1 ?_; rintro v2 w2 hown2 hg2 -; have hb2 : Below wr.heap.size wr w2 := ob_below hb1 hown1 hz1 hg2; have hz2 := hb2.size))
      have hlt2 : ∀ g, v2.ownBlock = some g → g < w2.heap.size := fun g hg => (hown2.lt g hg).2
      have HNE : Hid (∀ g, w2.heap.size ≤ g → some g ≠ v2.ownBlock) := hid fun g h e => by have := hlt2 g e.symm; omega
      have HO2 := hid hown2
      have hwd : Below wr.heap.size wr w2.drew := below_drewN hb2 1
      have HMAC : Hid (∀ wc v', Below wr.heap.size wr wc → BS wc v' ([] ++ Sh.tb l info j ++ info ++ [BitVec.ofNat 8 (j + 1)]) → Calls Tryd.prog 64 #[.slice (some ⟨w.heap.size, 0, none⟩) 32 32, v'] wc fun e w' => e = .returned (.agg (cs U8 D)) ∧ Below wr.heap.size wr w' ∧ Below wc.heap.size wc w') := hid fun wc v' h hv' => by
        have hbc : Below (w.heap.size + 1) wa wc := hbw.trans (h.mono (by omega))
        rw [List.nil_append] at hv'
        have hk := macD (w := wc) HDM.out (HTA.out.below hbc (by omega)) (by have := h.size; omega) (BS.row ((below_row hbc (by omega)).trans HRA.out) HL.out (by unfold maxLen; decide)) hv' (by rw [HL.out]; decide) (by have := tb_len l info j; simp only [List.length_append, List.length_cons, List.length_nil]; omega)
        exact hk.mono fun e w' ⟨h1, h2⟩ => ⟨h1, h.trans (h2.mono h.size), h2⟩
      have HLEN : Hid (([] ++ Sh.tb l info j ++ info).length + ([BitVec.ofNat 8 (j + 1)] : List (BitVec 8)).length ≤ 140737488355328) := hid (by have := tb_len l info j; simp; omega)
      have hDl := HDL.out
      clear hlt2 hown1 hown2 hg1 hg2 hb1 hz1
      refine wp_region_tree [0, 1, 2] (.both (.op 3 (.both (.op 4 (.both (.op 5 (.op 6 (.op 7 .done))) (.op 6 (.op 5 (.op 7 .done))))) (.op 6 (.op 4 (.op 5 (.op 7 .done)))))) (.op 6 (.op 3 (.op 4 (.op 5 (.op 7 .done)))))) (by kernel_rfl) (by kernel_rfl) (by kernel_rfl) (fun d _ _ _ _ h => by cases d <;> exact h) ?_
      refine ⟨.slice (some ⟨w.heap.size, 0, none⟩) 32 32, .inl ⟨rfl, fun w' => ?_⟩, _, .inl ⟨rfl, fun _ => rfl⟩, _, .inl ⟨rfl, fun _ => rfl⟩, ?_⟩
      · go_simp
      refine ⟨wpT_step rfl rfl (fun K hK => ?_), wpT_step rfl rfl (fun K hK => ?_)⟩
      · go_simp
        refine hK _ _ ⟨wpT_step rfl rfl (fun K hK => ?_), wpT_step rfl rfl (fun K hK => ?_)⟩
        · refine wp_apb (.tmp 31) (.tmp 33) rfl wr.heap.size _ _ ([] ++ Sh.tb l info j ++ info) [BitVec.ofNat 8 (j + 1)] rfl (OB.drewN (HO2.out.alloc _) 1) rfl (SV.drewN (BS.one _ _ _ rfl _) 1) HLEN.out (by simp; omega) ?_
          rintro v4 w4 hown4 hg4 -
          have hb4 : Below wr.heap.size wr w4 := ow_belowb (below_dr (below_al hb2 (Nat.le_refl _) _)) (OB.drewN (HO2.out.alloc _) 1) (by simp; omega) hg4
          have hz4 := hb4.size
          refine hK _ _ ⟨wpT_step rfl rfl (fun K hK => ?_), wpT_step rfl rfl (fun K hK => ?_)⟩
          · go_simp
            with_reducible refine (HMAC.out w4 v4 hb4 hown4.bs).mono ?_
            rintro e w5 ⟨rfl, hb5, hb5'⟩
            dsimp only
            have hz5 := hb5.size
            refine hK _ _ (wpT_step rfl rfl (fun K hK => ?_))
            refine wpa_key rfl ?_
            refine hK _ _ (wpT_step rfl rfl (fun K hK => ?_))
            refine wps_key (.tmp 12) (.tmp 35) rfl w5.heap.size (cs U8 D) rfl rfl (by simp [hDl]) (by simp [go_sem]) (by simp [go_sem]) (by simp [go_sem]) (hK _ _ ?_)
            rw [setRow_alloc_at _ _ _ _ rfl]
            obtain ⟨wz, hwz, hbz, hlz⟩ := fin_new (w0 := wr) (w5 := w5) (B := wr.heap.size) HDL.out hz5 hb5 23
            have hge : wr.heap.size ≤ w5.heap.size := by omega
            rw [← hwz]
            clear hwz
            have houz : OB wz (w.heap.size + 1) (.slice au (32 * j) cu) (Sh.okm l info j) := HOU.out.fr (Fr.of_below hlz) (fun _ _ h => h)
            have hbwz : Below (w.heap.size + 1) wa wz := hbw.trans (hlz.mono (by omega))
            have hzz := hbwz.size
            dsimp only [wpT]
            go_wp2_with (refine wpList_apb rfl (.tmp 37) (.tmp 38) rfl (w.heap.size + 1) _ _ (Sh.okm l info j) D rfl houz rfl hbz (by rw [okm_len, HDL.out]; omega) (by omega) ?_; rintro v6 w6 hown6 hg6 -; have hb6 : Below (w.heap.size + 1) wa w6 := ob_below hbwz houz (by omega) hg6)
            have hb7 : BS w6 (.slice (some ⟨w5.heap.size, 0, none⟩) 32 32) D := SV.grown' hbz hg6 (.inr (fun e => by have h9 : w5.heap.size < wr.heap.size := (HOU.out.lt _ e.symm).2; omega))
            obtain ⟨n6, c6, e6, hc6⟩ := hown6.bs.shape' (32 * j + 32) (by rw [List.length_append, okm_len, HDL.out])
            go_roundw
            case rel => exact ⟨j + 1, by omega, by omega, by rw [HJ.out], by rw [HOK.out]; exact hown6, by rw [← HD.out]; exact hb7, hb6⟩
            case measure => rw [e6]; simp; omega
          · refine wpa_key rfl ?_
            refine hK _ _ (wpT_step rfl rfl (fun K hK => ?_))
            go_simp
            with_reducible refine (HMAC.out (w4.alloc (.cells (cs U8 (zs 32)) 23)) v4 (below_al hb4 (Nat.le_refl _) _) (BS.alloc hown4.bs _)).mono ?_
            rintro e w5 ⟨rfl, hb5, hb5'⟩
            have r5 : w5.rowOf w4.heap.size = cs U8 (zs 32) := (below_row hb5' (by simp)).trans (by simp [go_sem])
            have f5 : w5.free w4.heap.size = true := (below_free hb5' (by simp)).trans (by simp [go_sem])
            dsimp only
            have hz5 := hb5.size
            refine hK _ _ (wpT_step rfl rfl (fun K hK => ?_))
            refine wps_key (.tmp 12) (.tmp 35) rfl w4.heap.size (cs U8 D) rfl rfl (by simp [hDl]) (by simp [go_sem]) (by rw [r5]; simp) f5 (hK _ _ ?_)
            obtain ⟨wz, hwz, hbz, hlz⟩ := fin_set (w0 := wr) (w5 := w5) (B := wr.heap.size) (g := w4.heap.size) f5 HDL.out (by omega) hb5
            have hge : wr.heap.size ≤ w4.heap.size := by omega
            rw [← hwz]
            clear hwz
            have houz : OB wz (w.heap.size + 1) (.slice au (32 * j) cu) (Sh.okm l info j) := HOU.out.fr (Fr.of_below hlz) (fun _ _ h => h)
            have hbwz : Below (w.heap.size + 1) wa wz := hbw.trans (hlz.mono (by omega))
            have hzz := hbwz.size
            dsimp only [wpT]
            go_wp2_with (refine wpList_apb rfl (.tmp 37) (.tmp 38) rfl (w.heap.size + 1) _ _ (Sh.okm l info j) D rfl houz rfl hbz (by rw [okm_len, HDL.out]; omega) (by omega) ?_; rintro v6 w6 hown6 hg6 -; have hb6 : Below (w.heap.size + 1) wa w6 := ob_below hbwz houz (by omega) hg6)
            have hb7 : BS w6 (.slice (some ⟨w4.heap.size, 0, none⟩) 32 32) D := SV.grown' hbz hg6 (.inr (fun e => by have h9 : w4.heap.size < wr.heap.size := (HOU.out.lt _ e.symm).2; omega))
            obtain ⟨n6, c6, e6, hc6⟩ := hown6.bs.shape' (32 * j + 32) (by rw [List.length_append, okm_len, HDL.out])
            go_roundw
            case rel => exact ⟨j + 1, by omega, by omega, by rw [HJ.out], by rw [HOK.out]; exact hown6, by rw [← HD.out]; exact hb7, hb6⟩
            case measure => rw [e6]; simp; omega
        · refine wpa_key rfl ?_
          refine hK _ _ (wpT_step rfl rfl (fun K hK => ?_))
          refine wp_apb (.tmp 31) (.tmp 33) rfl wr.heap.size _ _ ([] ++ Sh.tb l info j ++ info) [BitVec.ofNat 8 (j + 1)] rfl (OB.drewN ((HO2.out.alloc _).alloc _) 1) rfl (SV.drewN (SV.alloc (BS.one _ _ _ rfl _) _) 1) HLEN.out (by simp; omega) ?_
          rintro v4 w4 hown4 hg4 -
          have hb4 : Below wr.heap.size wr w4 := ow_belowb (below_dr (below_al (below_al hb2 (Nat.le_refl _) _) (Nat.le_refl _) _)) (OB.drewN ((HO2.out.alloc _).alloc _) 1) (by simp; omega) hg4
          have r4 : w4.rowOf (w2.heap.size + 1) = cs U8 (zs 32) := (gb_row hg4 (by simp) (HNE.out _ (by omega))).trans (by simp [go_sem])
          have f4 : w4.free (w2.heap.size + 1) = true := (gb_free hg4 (by simp) (HNE.out _ (by omega))).trans (by simp [go_sem])
          have hz4 : w2.heap.size + 1 < w4.heap.size := by have := hg4.size; simp at this; omega
          refine hK _ _ (wpT_step rfl rfl (fun K hK => ?_))
          go_simp
          with_reducible refine (HMAC.out w4 v4 hb4 hown4.bs).mono ?_
          rintro e w5 ⟨rfl, hb5, hb5'⟩
          have r5 : w5.rowOf (w2.heap.size + 1) = cs U8 (zs 32) := (below_row hb5' (by omega)).trans r4
          have f5 : w5.free (w2.heap.size + 1) = true := (below_free hb5' (by omega)).trans f4
          dsimp only
          have hz5 := hb5.size
          refine hK _ _ (wpT_step rfl rfl (fun K hK => ?_))
          refine wps_key (.tmp 12) (.tmp 35) rfl (w2.heap.size + 1) (cs U8 D) rfl rfl (by simp [hDl]) (by simp [go_sem]) (by rw [r5]; simp) f5 (hK _ _ ?_)
          obtain ⟨wz, hwz, hbz, hlz⟩ := fin_set (w0 := wr) (w5 := w5) (B := wr.heap.size) (g := (w2.heap.size + 1)) f5 HDL.out (by omega) hb5
          have hge : wr.heap.size ≤ (w2.heap.size + 1) := by omega
          rw [← hwz]
          clear hwz
          have houz : OB wz (w.heap.size + 1) (.slice au (32 * j) cu) (Sh.okm l info j) := HOU.out.fr (Fr.of_below hlz) (fun _ _ h => h)
          have hbwz : Below (w.heap.size + 1) wa wz := hbw.trans (hlz.mono (by omega))
          have hzz := hbwz.size
          dsimp only [wpT]
          go_wp2_with (refine wpList_apb rfl (.tmp 37) (.tmp 38) rfl (w.heap.size + 1) _ _ (Sh.okm l info j) D rfl houz rfl hbz (by rw [okm_len, HDL.out]; omega) (by omega) ?_; rintro v6 w6 hown6 hg6 -; have hb6 : Below (w.heap.size + 1) wa w6 := ob_below hbwz houz (by omega) hg6)
          have hb7 : BS w6 (.slice (some ⟨(w2.heap.size + 1), 0, none⟩) 32 32) D := SV.grown' hbz hg6 (.inr (fun e => by have h9 : (w2.heap.size + 1) < wr.heap.size := (HOU.out.lt _ e.symm).2; omega))
          obtain ⟨n6, c6, e6, hc6⟩ := hown6.bs.shape' (32 * j + 32) (by rw [List.length_append, okm_len, HDL.out])
          go_roundw
          case rel => exact ⟨j + 1, by omega, by omega, by rw [HJ.out], by rw [HOK.out]; exact hown6, by rw [← HD.out]; exact hb7, hb6⟩
          case measure => rw [e6]; simp; omega
      · refine wpa_key rfl ?_
        refine hK _ _ (wpT_step rfl rfl (fun K hK => ?_))
        go_simp
        refine hK _ _ (wpT_step rfl rfl (fun K hK => ?_))
        refine wp_apb (.tmp 31) (.tmp 33) rfl wr.heap.size _ _ ([] ++ Sh.tb l info j ++ info) [BitVec.ofNat 8 (j + 1)] rfl (OB.drewN ((HO2.out.alloc _).alloc _) 1) rfl (BS.oneAt (by simp [go_sem]) rfl) HLEN.out (by simp; omega) ?_
        rintro v4 w4 hown4 hg4 -
        have hb4 : Below wr.heap.size wr w4 := ow_belowb (below_dr (below_al (below_al hb2 (Nat.le_refl _) _) (Nat.le_refl _) _)) (OB.drewN ((HO2.out.alloc _).alloc _) 1) (by simp; omega) hg4
        have r4 : w4.rowOf w2.heap.size = cs U8 (zs 32) := (gb_row hg4 (by simp; omega) (HNE.out _ (Nat.le_refl _))).trans (by simp [go_sem])
        have f4 : w4.free w2.heap.size = true := (gb_free hg4 (by simp; omega) (HNE.out _ (Nat.le_refl _))).trans (by simp [go_sem])
        have hz4 : w2.heap.size < w4.heap.size := by have := hg4.size; simp at this; omega
        refine hK _ _ (wpT_step rfl rfl (fun K hK => ?_))
        go_simp
        with_reducible refine (HMAC.out w4 v4 hb4 hown4.bs).mono ?_
        rintro e w5 ⟨rfl, hb5, hb5'⟩
        have r5 : w5.rowOf w2.heap.size = cs U8 (zs 32) := (below_row hb5' (by omega)).trans r4
        have f5 : w5.free w2.heap.size = true := (below_free hb5' (by omega)).trans f4
        dsimp only
        have hz5 := hb5.size
        refine hK _ _ (wpT_step rfl rfl (fun K hK => ?_))
        refine wps_key (.tmp 12) (.tmp 35) rfl w2.heap.size (cs U8 D) rfl rfl (by simp [hDl]) (by simp [go_sem]) (by rw [r5]; simp) f5 (hK _ _ ?_)
        obtain ⟨wz, hwz, hbz, hlz⟩ := fin_set (w0 := wr) (w5 := w5) (B := wr.heap.size) (g := w2.heap.size) f5 HDL.out (by omega) hb5
        have hge : wr.heap.size ≤ w2.heap.size := by omega
        rw [← hwz]
        clear hwz
        have houz : OB wz (w.heap.size + 1) (.slice au (32 * j) cu) (Sh.okm l info j) := HOU.out.fr (Fr.of_below hlz) (fun _ _ h => h)
        have hbwz : Below (w.heap.size + 1) wa wz := hbw.trans (hlz.mono (by omega))
        have hzz := hbwz.size
        dsimp only [wpT]
        go_wp2_with (refine wpList_apb rfl (.tmp 37) (.tmp 38) rfl (w.heap.size + 1) _ _ (Sh.okm l info j) D rfl houz rfl hbz (by rw [okm_len, HDL.out]; omega) (by omega) ?_; rintro v6 w6 hown6 hg6 -; have hb6 : Below (w.heap.size + 1) wa w6 := ob_below hbwz houz (by omega) hg6)
        have hb7 : BS w6 (.slice (some ⟨w2.heap.size, 0, none⟩) 32 32) D := SV.grown' hbz hg6 (.inr (fun e => by have h9 : w2.heap.size < wr.heap.size := (HOU.out.lt _ e.symm).2; omega))
        obtain ⟨n6, c6, e6, hc6⟩ := hown6.bs.shape' (32 * j + 32) (by rw [List.length_append, okm_len, HDL.out])
        go_roundw
        case rel => exact ⟨j + 1, by omega, by omega, by rw [HJ.out], by rw [HOK.out]; exact hown6, by rw [← HD.out]; exact hb7, hb6⟩
        case measure => rw [e6]; simp; omega
    · have q0 : ¬ (32 * (j : Int)) < n := by omega
      have hjj : j = (n + 31) / 32 := by omega
      have HE : Hid ((Sh.okm l info j).take n = Sh.expand l info n) := hid (by rw [hjj]; rfl)
      have hle : n ≤ 32 * j := by omega
      have hh := hou.bs.headn (okm_len l info j) n n hle (Nat.le_refl _) (by omega)
      rw [HE.out] at hh
      have HH := hid hh
      have q1 : (n : Int) ≤ cu := by omega
      have q2 : (0 : Int) ≤ n := by omega
      clear hh hou hbt hjj
      go_wp2_with fail
      go_ret2
      exact ⟨_, rfl, HH.out, ha.trans (hbw.mono (by omega))⟩
end Go.Proofs.YtgclegdgngldoaaDoor
set_option linter.unusedSimpArgs false
set_option linter.unusedVariables false
namespace Go.Proofs.YtgclegdgngldoaaDoor
open Go.RowKit

def Sh.pig : List (BitVec 8) := [112, 105, 103, 101, 111, 110, 114, 121, 32]
def Sh.derive (k label : List (BitVec 8)) : List (BitVec 8) := Sh.expand k (Sh.pig ++ label) 32
theorem expand_len (k i : List (BitVec 8)) (n : Nat) : (Sh.expand k i n).length = n := by
  unfold Sh.expand; rw [List.length_take, okm_len]; omega
theorem derive_len (k i : List (BitVec 8)) : (Sh.derive k i).length = 32 := expand_len ..
theorem pig_str (l : List (BitVec 8)) : Value.string (⟨#[112, 105, 103, 101, 111, 110, 114, 121, 32]⟩ ++ Bs l) = Sv (Sh.pig ++ l) := by
  unfold Sv; rw [← Bs_append]; rfl
theorem rexpand_c (c : Int) (n : Nat) (hc : (n : Int) = c) (w : World) (l info : List (BitVec 8)) (v : Value) (hl : l.length = 32) (hv : BS w v info) (hil : info.length ≤ 1073730000) (hn : n ≤ 8160) :
    Calls Tryd.prog 74 #[.agg (cs U8 l), v, .int .i64 c] w fun e w' => ∃ u, e = .returned (.tuple #[u, .int .i64 0]) ∧ BS w' u (Sh.expand l info n) ∧ Below w.heap.size w w' := by
  rw [← hc]; exact rexpand_any w l info v n hl hv hil hn
theorem fil_get (l : List (BitVec 8)) : (fil l 32 32) = l.take 32 := fil_all l 32
set_option maxRecDepth 100000 in
set_option maxHeartbeats 2000000 in
theorem rderive_any (w : World) (l lab : List (BitVec 8)) (hl : l.length = 32) (hil : lab.length ≤ 1073700000) :
    Calls Tryd.prog 54 #[.agg (cs U8 l), .string (Bs lab)] w fun e w' => e = .returned (.agg (cs U8 (Sh.derive l lab))) ∧ Below w.heap.size w w' := by
  obtain ⟨D, hD⟩ : ∃ D, D = Sh.derive l lab := ⟨_, rfl⟩
  have hDl : D.length = 32 := by rw [hD]; exact derive_len ..
  rw [← hD]
  have HD : Hid (Sh.expand l (Sh.pig ++ lab) 32 = D) := hid (by rw [hD]; rfl)
  have HL := hid hl; have HDL := hid hDl
  have hcat := pig_str lab
  obtain ⟨M, hM⟩ : ∃ M, M = Sh.pig ++ lab := ⟨_, rfl⟩
  have hMl : M.length = 9 + lab.length := by rw [hM, List.length_append]; rfl
  rw [← hM] at HD hcat
  have HML := hid hMl
  clear hD hMl hM
  have ha : Below w.heap.size w ((w.alloc (.cells (cs U8 l) 23)).alloc (.cells (cs U8 (zs 32)) 23)) := ((Below.refl _ _).alloc (Nat.le_refl _) _).alloc (by simp) _
  have hr1 : ((w.alloc (.cells (cs U8 l) 23)).alloc (.cells (cs U8 (zs 32)) 23)).rowOf (w.heap.size + 1) = cs U8 (zs 32) := by simp [go_sem]
  have hf1 : ((w.alloc (.cells (cs U8 l) 23)).alloc (.cells (cs U8 (zs 32)) 23)).free (w.heap.size + 1) = true := by simp [go_sem]
  have hsa : ((w.alloc (.cells (cs U8 l) 23)).alloc (.cells (cs U8 (zs 32)) 23)).heap.size = w.heap.size + 2 := by simp
  obtain ⟨cap, w1, hrun, hbs, hb1, hz1⟩ := str_bytes ((w.alloc (.cells (cs U8 l) 23)).alloc (.cells (cs U8 (zs 32)) 23)) M
  rw [hsa] at hb1 hz1 hrun hbs
  have HBS := hid (hbs (by unfold maxLen; rw [HML.out]; omega))
  have HR1 : Hid (w1.rowOf (w.heap.size + 1) = cs U8 (zs 32)) := hid ((below_row hb1 (by omega)).trans hr1)
  have HF1 : Hid (w1.free (w.heap.size + 1) = true) := hid ((below_free hb1 (by omega)).trans hf1)
  have HB1 : Hid (Below w.heap.size w w1) := hid (ha.trans (hb1.mono (by omega)))
  rw [HML.out] at hrun HBS
  unfold Sv at hrun
  clear hr1 hf1 hbs hDl hsa ha hb1
  unfold Sv at hcat
  have hbl : (Bs lab).size ≤ 1073700000 := by rw [Bs_size]; exact hil
  go_enter Tryd.func54, Tryd.ntmps54
  go_wp2_with fail
  have HC := hid hcat
  clear hcat hrun
  have hb0 : w.heap.size + 3 ≤ w1.heap.size := by omega
  with_reducible refine (rexpand_c 32 32 rfl w1 l M _ HL.out HBS.out (by rw [HML.out]; omega) (by decide)).mono ?_
  rintro e w2 ⟨u2, rfl, hu2, hb2⟩
  rw [HD.out] at hu2
  obtain ⟨bu, ou, cu, rfl, hcu, hcell⟩ := hu2.open (by intro e; have := HDL.out; rw [e] at this; cases this)
  rw [HDL.out] at hcu hcell ⊢
  have hz2 := hb2.size
  have HR2 : Hid (w2.rowOf (w.heap.size + 1) = cs U8 (zs 32)) := hid ((below_row hb2 (by omega)).trans HR1.out)
  have HF2 : Hid (w2.free (w.heap.size + 1) = true) := hid ((below_free hb2 (by omega)).trans HF1.out)
  have HB2 : Hid (Below w.heap.size w w2) := hid (HB1.out.trans (hb2.mono (by omega)))
  have HU2 := hid hu2
  have hbu : bu < w2.heap.size := block_lt_of_cell (hcell 0 (by omega))
  have HCELL := hid hcell
  clear hu2 hcell hb2
  dsimp only
  go_wp2_with fail
  obtain ⟨w3, hw3⟩ : ∃ w3, w3 = w2.alloc (.cells (cs U8 (zs 32)) 23) := ⟨_, rfl⟩
  have hr3 : w3.rowOf w2.heap.size = cs U8 (zs 32) := by rw [hw3]; exact rowOf_alloc_at _ _ _ rfl
  have hf3 : w3.free w2.heap.size = true := by rw [hw3]; exact free_alloc_at _ _ _ rfl
  have hb3 : Below w2.heap.size w2 w3 := by rw [hw3]; exact (Below.refl _ _).alloc (Nat.le_refl _) _
  have hz3 : w3.heap.size = w2.heap.size + 1 := by rw [hw3]; simp
  rw [← hw3]
  have HR3 := hid hr3; have HB3 := hid hb3
  clear hw3 hr3 hb3
  go_loopw [8] (fun t wr => ∃ i : Nat, i ≤ 32 ∧ t = .int .i64 i ∧ wr.rowOf w2.heap.size = cs U8 (fil D 32 i) ∧ wr.free w2.heap.size = true ∧ Below w2.heap.size w3 wr) (fun t _ => 32 - (intOf t).toNat)
  case atStart => exact ⟨0, by omega, rfl, by rw [fil_zero]; exact HR3.out, hf3, Below.refl _ _⟩
  case round =>
    obtain ⟨i, hi, rfl, hrow, hfr, hbw⟩ := hrel
    by_cases hlt : i < 32
    · have k1 : wr.cell? ⟨bu, ou + i, none⟩ = some (U8 (D.getD i 0)) := (hbw.cell (p := ⟨bu, ou + i, none⟩) hbu).trans ((HB3.out.cell (p := ⟨bu, ou + i, none⟩) hbu).trans (HCELL.out i hlt))
      have q0 : (0 : Int) ≤ i := by omega
      have q1 : (i : Int) < 32 := by omega
      have hrs : (wr.rowOf w2.heap.size).size = 32 := by rw [hrow]; simp [fil_len D 32 i (by rw [HDL.out]; omega) (by omega)]
      have HROW := hid hrow
      clear hrow
      go_wp2_with fail
      go_roundw
      case rel => exact ⟨i + 1, by omega, by go_num, by rw [rowOf_setRow_same _ hfr, HROW.out, cs_set8]; exact congrArg _ (by simpa using fil_set D 32 i (by rw [HDL.out]; omega) hlt), by rw [free_setRow]; exact hfr, below_setRow' hbw (Nat.le_refl _) _⟩
      case measure => simp [intOf]; omega
    · have : i = 32 := by omega
      subst this
      have e32 : D.take 32 = D := List.take_of_length_le (by rw [HDL.out]; exact Nat.le_refl _)
      rw [fil_all, e32] at hrow
      have hDl := HDL.out
      have g1 : wr.rowOf (w.heap.size + 1) = cs U8 (zs 32) := (below_row hbw (by omega)).trans ((below_row HB3.out (by omega)).trans HR2.out)
      have g2 : wr.free (w.heap.size + 1) = true := (below_free hbw (by omega)).trans ((below_free HB3.out (by omega)).trans HF2.out)
      have HB := hid (HB2.out.trans ((HB3.out.trans hbw).mono (by omega)))
      clear hbw e32
      go_wp2_with fail
      refine bodyPost_ret (res_row (b := w.heap.size + 1) rfl Tryd.underlying23 rfl inf_key _ _ rfl ?_) rfl ?_
      · rw [rowOf_setRow_same _ g2, cs_size]; exact hDl
      · rw [rowOf_setRow_same _ g2]
        exact ⟨rfl, below_setRow' HB.out (by omega) _⟩
end Go.Proofs.YtgclegdgngldoaaDoor
set_option linter.unusedSimpArgs false
set_option linter.unusedVariables false
namespace Go.Proofs.YtgclegdgngldoaaDoor
open Go.RowKit

theorem expand_c (c : Int) (n : Nat) (hc : (n : Int) = c) (w : World) (l info : List (BitVec 8)) (v : Value) (hT : KT w) (hk0 : 0 < w.heap.size) (hl : l.length = 32) (hv : BS w v info) (hil : info.length ≤ 1073730000) (hn : n ≤ 8160) :
    Calls Tryd.prog 71 #[.agg (cs U8 l), v, .int .i64 c] w fun e w' => ∃ u, e = .returned (.tuple #[u, .int .i64 0]) ∧ BS w' u (Sh.expand l info n) ∧ Below w.heap.size w w' := by
  rw [← hc]; exact expand_any w l info v n hT hk0 hl hv hil hn
/-- a whole key, read out of a slice -/
theorem ld_key {w : World} {b o n c : Nat} {l : List (BitVec 8)} (h : BS w (.slice (some ⟨b, o, none⟩) n c) l) (hn : 32 ≤ l.length) :
    exLoad Tryd.prog 23 (.pointer (some ⟨b, o, none⟩)) w = .ok (.value (.agg (cs U8 (l.take 32)))) w := by
  obtain ⟨m, hm⟩ : ∃ m, m = l.length := ⟨_, rfl⟩
  obtain ⟨b', o', cap, e, hc, hcell⟩ := h.open (by intro e; rw [e] at hn; simp at hn)
  rw [← hm] at e hcell hn
  simp only [Value.slice.injEq, Option.some.injEq, Addr.mk.injEq] at e
  obtain ⟨⟨rfl, rfl, -⟩, rfl, rfl⟩ := e
  have hsz : o + 32 ≤ (w.rowOf b).size := by
    have := hcell 31 (by omega)
    rw [cell_rowOf] at this
    have := (Array.getElem?_eq_some_iff.1 this).1
    omega
  rw [x_loadm (P := Tryd.prog) w (T := 23) Tryd.underlying23 rfl inf_key b o hsz]
  have hx : (w.rowOf b).extract o (o + 32) = cs U8 (l.take 32) := by
    apply Array.ext
    · simp; omega
    · intro i h1 h2
      have hi : i < 32 := by simp at h1; omega
      have := hcell i (by omega)
      rw [cell_rowOf] at this
      have h3 := (Array.getElem?_eq_some_iff.1 this).2
      simp only [Array.getElem_extract, h3]
      have h4 := cs_get_lt (f := U8) (l := l.take 32) (i := i) (by simp; omega)
      have h5 := (Array.getElem?_eq_some_iff.1 h4).2
      rw [h5, List.getElem_take, List.getD_eq_getElem?_getD, List.getElem?_eq_getElem (by omega)]
      rfl
  rw [hx]
set_option maxRecDepth 100000 in
set_option maxHeartbeats 2000000 in
theorem derive_any (w : World) (l lab : List (BitVec 8)) (hT : KT w) (hk0 : 0 < w.heap.size) (hl : l.length = 32) (hil : lab.length ≤ 1073700000) :
    Calls Tryd.prog 50 #[.agg (cs U8 l), .string (Bs lab)] w fun e w' => e = .returned (.agg (cs U8 (Sh.derive l lab))) ∧ Below w.heap.size w w' := by
  obtain ⟨D, hD⟩ : ∃ D, D = Sh.derive l lab := ⟨_, rfl⟩
  have hDl : D.length = 32 := by rw [hD]; exact derive_len ..
  rw [← hD]
  have HD : Hid (Sh.expand l (Sh.pig ++ lab) 32 = D) := hid (by rw [hD]; rfl)
  have HL := hid hl; have HDL := hid hDl
  have hcat := pig_str lab
  obtain ⟨M, hM⟩ : ∃ M, M = Sh.pig ++ lab := ⟨_, rfl⟩
  have hMl : M.length = 9 + lab.length := by rw [hM, List.length_append]; rfl
  rw [← hM] at HD hcat
  have HML := hid hMl
  clear hD hMl hM
  have ha : Below w.heap.size w ((w.alloc (.cells (cs U8 l) 23)).alloc (.cells (cs U8 (zs 32)) 23)) := ((Below.refl _ _).alloc (Nat.le_refl _) _).alloc (by simp) _
  have hr1 : ((w.alloc (.cells (cs U8 l) 23)).alloc (.cells (cs U8 (zs 32)) 23)).rowOf (w.heap.size + 1) = cs U8 (zs 32) := by simp [go_sem]
  have hf1 : ((w.alloc (.cells (cs U8 l) 23)).alloc (.cells (cs U8 (zs 32)) 23)).free (w.heap.size + 1) = true := by simp [go_sem]
  have hsa : ((w.alloc (.cells (cs U8 l) 23)).alloc (.cells (cs U8 (zs 32)) 23)).heap.size = w.heap.size + 2 := by simp
  obtain ⟨cap, w1, hrun, hbs, hb1, hz1⟩ := str_bytes ((w.alloc (.cells (cs U8 l) 23)).alloc (.cells (cs U8 (zs 32)) 23)) M
  rw [hsa] at hb1 hz1 hrun hbs
  have HBS := hid (hbs (by unfold maxLen; rw [HML.out]; omega))
  have HR1 : Hid (w1.rowOf (w.heap.size + 1) = cs U8 (zs 32)) := hid ((below_row hb1 (by omega)).trans hr1)
  have HF1 : Hid (w1.free (w.heap.size + 1) = true) := hid ((below_free hb1 (by omega)).trans hf1)
  have HB1 : Hid (Below w.heap.size w w1) := hid (ha.trans (hb1.mono (by omega)))
  rw [HML.out] at hrun HBS
  unfold Sv at hrun hcat
  clear hr1 hf1 hbs hDl hsa ha hb1
  have hbl : (Bs lab).size ≤ 1073700000 := by rw [Bs_size]; exact hil
  have HT1 : Hid (KT w1) := hid (hT.below HB1.out hk0)
  clear hT
  go_enter Tryd.func50, Tryd.ntmps50
  go_wp2_with fail
  have HC := hid hcat
  clear hcat hrun
  have hb0 : w.heap.size + 3 ≤ w1.heap.size := by omega
  with_reducible refine (expand_c 32 32 rfl w1 l M _ HT1.out (by omega) HL.out HBS.out (by rw [HML.out]; omega) (by decide)).mono ?_
  rintro e w2 ⟨u2, rfl, hu2, hb2⟩
  rw [HD.out] at hu2
  obtain ⟨bu, ou, cu, rfl, hcu, hcell⟩ := hu2.open (by intro e; have := HDL.out; rw [e] at this; cases this)
  rw [HDL.out] at hu2 hcu ⊢
  have hz2 := hb2.size
  have hr2 : w2.rowOf (w.heap.size + 1) = cs U8 (zs 32) := (below_row hb2 (by omega)).trans HR1.out
  have hf2 : w2.free (w.heap.size + 1) = true := (below_free hb2 (by omega)).trans HF1.out
  have HB2 : Hid (Below w.heap.size w w2) := hid (HB1.out.trans (hb2.mono (by omega)))
  have hld := ld_key hu2 (by rw [HDL.out]; exact Nat.le_refl _)
  have e32 : D.take 32 = D := List.take_of_length_le (by rw [HDL.out]; exact Nat.le_refl _)
  rw [e32] at hld
  have hDl := HDL.out
  clear hcell hb2 e32 hu2 hl
  dsimp only
  go_wp2_with fail
  refine bodyPost_ret (res_row (b := w.heap.size + 1) rfl Tryd.underlying23 rfl inf_key _ _ rfl ?_) rfl ?_
  · rw [rowOf_setRow_same _ hf2, cs_size]; exact hDl
  · rw [rowOf_setRow_same _ hf2]
    exact ⟨rfl, below_setRow' HB2.out (by omega) _⟩
end Go.Proofs.YtgclegdgngldoaaDoor
