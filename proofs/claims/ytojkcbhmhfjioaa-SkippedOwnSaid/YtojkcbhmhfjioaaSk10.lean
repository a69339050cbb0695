/-
  Law 18: a store and the document's, side by side; own work.
-/
import Derived.Test.YtojkcbhmhfjioaaSk9
set_option linter.unusedSimpArgs false
set_option linter.unusedVariables false
namespace Go.Proofs.Ytojkcbhmhfjioaa
open Go.RowKit
/-- an act -/
structure Sk.Ac where
  q : Int
  p : Ky
  n : Int
  v : Value
  ks : List Ky
instance : Inhabited Sk.Ac := ⟨⟨0, Ky.zero, 0, .slice none 0 0, []⟩⟩
def eC (x : Sk.Ac) : List Value := (ACS x.q x.p x.n x.v).toList
theorem eC_len (x : Sk.Ac) : (eC x).length = 35 := by simp [eC]
structure OkA (w : World) (x : Sk.Ac) : Prop where
  q0 : 0 ≤ x.q
  q1 : x.q < 256
  n0 : -9223372036854775808 ≤ x.n
  n1 : x.n ≤ 9223372036854775807
  sv : SV w x.v x.ks.length (fl eK x.ks)
/-- our store, and the document's keys -/
structure XA (w : World) (B b : Nat) (room : Int) (L : List Sk.En) (v r : Value) (m : Nat) (L' : List Sk.En) : Prop where
  so : SO w B b room L v
  ow : Ow w B 65 r m (fl eE L')
  ln : L'.length = m
  dj : ∀ g, SF b v g → obk r ≠ some g
def XF (b : Nat) (v r : Value) : Nat → Prop := fun g => SF b v g ∨ obk r = some g
section
variable {w w' : World} {B b : Nat} {room : Int} {L L' L1 L2 : List Sk.En} {v r : Value} {m : Nat}
theorem XA.stb (B b : Nat) (room : Int) (L : List Sk.En) (v r : Value) (m : Nat) (L' : List Sk.En) : Stb (XF b v r) (fun w => XA w B b room L v r m L') :=
  ⟨fun h hf hd => ⟨h.so.fr hf (fun g hg => hd g (.inl hg)), h.ow.fr hf (fun g hg => hd g (.inr hg)), h.ln, h.dj⟩, fun h hg => hg.elim (fun hg => (h.so.lt _ hg).2) (fun hg => (h.ow.at_ _ hg).2)⟩
theorem XA.b_ (X : XA w B b room L v r m L') : ∀ g, XF b v r g → B ≤ g := fun g hg => hg.elim (fun hg => (X.so.lt _ hg).1) (fun hg => (X.ow.at_ _ hg).1)
theorem XA.Bw (X : XA w B b room L v r m L') : B ≤ w.heap.size := by have := X.so.lt b (.inl rfl); omega
theorem sput_x (w : World) (X : XA w B b room L v r m L1) (hrm : 0 < room) (p : Ky) (f : Int) {u : Value} {ks : List Ky} {n : Nat} (hK : SV w u n (fl eK ks)) (hn : ks.length = n) (h9 : L.length ≤ 100000) {q : Int} (hres : Sk.put room.toNat L p f ks = (L', q)) :
    Calls Try.prog 13 #[.pointer (some ⟨b, 0, none⟩), .agg (cs U8 p.l), .int .i64 f, u] w fun e w' => ∃ u : Value, e = .returned (.int .i64 q) ∧ XA w' B b room L' u r m L1 ∧ Fr (XF b v r) w w' ∧ ∀ g, XF b u r g → XF b v r g ∨ w.heap.size ≤ g := by
  subst hn
  refine (sput_e w X.so hrm p f hK h9 hres).mono ?_
  rintro e w' ⟨u, he, hR, hf, hg⟩
  refine ⟨u, he, ⟨hR, X.ow.fr hf (fun g h1 h2 => X.dj g h2 h1), X.ln, fun g h1 h2 => ?_⟩, hf.mono (fun _ _ h => .inl h), fun g h => ?_⟩
  · rcases hg g h1 with e | e
    · exact X.dj g e h2
    · have := (X.ow.at_ g h2).2; omega
  · rcases h with h | h
    · exact (hg g h).imp .inl id
    · exact .inl (.inr h)
theorem sdrop_x (w : World) (X : XA w B b room L v r m L1) (hrm : 0 < room) (p : Ky) (n : Int) (h9 : L.length ≤ 100000) {q : Int} (hres : Sk.drop L p n = (L', q)) :
    Calls Try.prog 12 #[.pointer (some ⟨b, 0, none⟩), .agg (cs U8 p.l), .int .i64 n] w fun e w' => ∃ u : Value, e = .returned (.int .i64 q) ∧ XA w' B b room L' u r m L1 ∧ Fr (XF b v r) w w' ∧ ∀ g, XF b u r g → XF b v r g ∨ w.heap.size ≤ g := by
  refine (sdrop_e w X.so hrm p n h9 hres).mono ?_
  rintro e w' ⟨u, he, hR, hf, hg⟩
  refine ⟨u, he, ⟨hR, X.ow.fr hf (fun g h1 h2 => X.dj g h2 h1), X.ln, fun g h1 h2 => ?_⟩, hf.mono (fun _ _ h => .inl h), fun g h => ?_⟩
  · rcases hg g h1 with e | e
    · exact X.dj g e h2
    · have := (X.ow.at_ g h2).2; omega
  · rcases h with h | h
    · exact (hg g h).imp .inl id
    · exact .inl (.inr h)
theorem sclo_x (w : World) (X : XA w B b room L v r m L1) (hrm : 0 < room) (h9 : L.length ≤ 100000) :
    Calls Try.prog 17 #[.pointer (some ⟨b, 0, none⟩)] w fun e w' => ∃ u : Nat × Value, e = .returned (.pointer (some ⟨u.1, 0, none⟩)) ∧ XA w' B u.1 room L u.2 r m L1 ∧ Fr (XF b v r) w w' ∧ ∀ g, XF u.1 u.2 r g → XF b v r g ∨ w.heap.size ≤ g := by
  refine (sclo_e w X.so hrm h9 X.Bw).mono ?_
  rintro e w' ⟨u, he, hR, hb, hg⟩
  refine ⟨u, he, ⟨hR, X.ow.below hb, X.ln, fun g h1 h2 => ?_⟩, Fr.of_below hb, fun g h => ?_⟩
  · have := hg g h1; have := (X.ow.at_ g h2).2; omega
  · rcases h with h | h
    · exact .inr (hg g h)
    · exact .inl (.inr h)
theorem sget_x (w : World) (X : XA w B b room L v r m L1) (hrm : 0 < room) (p : Ky) (n : Int) {k : Ky} {q : Int} (hres : Sk.get L p n = (k, q)) :
    Calls Try.prog 18 #[.pointer (some ⟨b, 0, none⟩), .agg (cs U8 p.l), .int .i64 n] w fun e w' => e = .returned (.tuple #[.agg (cs U8 k.l), .int .i64 q]) ∧ Below w.heap.size w w' := sget_e w X.so hrm p n hres
theorem sall_x (w : World) (X : XA w B b room L v r m L1) (hrm : 0 < room) (h9 : L.length ≤ 100000) {n : Nat} (hn : L.length = n) :
    Calls Try.prog 14 #[.pointer (some ⟨b, 0, none⟩)] w fun e w' => ∃ u : Value, e = .returned u ∧ Ow w' B 65 u n (fl eE L) ∧ Below w.heap.size w w' ∧ ∀ g, obk u = some g → w.heap.size ≤ g := by
  refine (sall_e w X.so hrm h9 hn).mono ?_
  rintro e w' ⟨u, he, hO, hb⟩
  exact ⟨u, he, hO.mono (fun g hg => Nat.le_trans X.Bw (hO.at_ g hg).1), hb, fun g hg => (hO.at_ g hg).1⟩
theorem ours_x (w : World) {u : Value} {n : Nat} {B0 : Nat} (hO : Ow w B0 65 u n (fl eE L)) (hn : L.length = n) (h9 : n ≤ 100000) (hB : B ≤ w.heap.size) :
    Calls Try.prog 21 #[u] w fun e w' => ∃ u : Value, e = .returned u ∧ Ow w' B 65 u n (fl eE L) ∧ Below w.heap.size w w' ∧ ∀ g, obk u = some g → w.heap.size ≤ g := by
  refine (ours_c w u n L hO.sv hn h9).mono ?_
  rintro e w' ⟨u, he, hO, hb⟩
  exact ⟨u, he, hO.mono (fun g hg => Nat.le_trans hB (hO.at_ g hg).1), hb, fun g hg => (hO.at_ g hg).1⟩
variable {a : Option Addr} {c m2 : Nat}
theorem RPost.obx {q : Int} {e : Ending} (X : XA w B b room L v (.slice a m c) m L1) (h : RPost w B (.slice a m c) room (L2, q) e w') (hm2 : L2.length = m2) :
    ∃ ur : Option Addr × Nat, e = .returned (.tuple #[.agg (RSR (.slice ur.1 m2 ur.2) room), .int .i64 q]) ∧ XA w' B b room L v (.slice ur.1 m2 ur.2) m2 L2 ∧ Fr (XF b v (.slice a m c)) w w' ∧ ∀ g, XF b v (.slice ur.1 m2 ur.2) g → XF b v (.slice a m c) g ∨ w.heap.size ≤ g := by
  obtain ⟨v', he, hO, hb, hg⟩ := h
  have hl : ((L2, q).1 : List Sk.En).length = m2 := hm2
  rw [hl] at hO
  obtain ⟨a', c', rfl, _⟩ := hO.shape
  refine ⟨(a', c'), he, ⟨X.so.below hb, hO, hm2, fun g h1 h2 => ?_⟩, Fr.of_below hb, fun g h => ?_⟩
  · rcases hg g h2 with e | e
    · exact X.dj g h1 e
    · have := (X.so.lt g h1).2; omega
  · rcases h with h | h
    · exact .inl (.inl h)
    · exact (hg g h).imp .inr id
theorem rput_x (w : World) (X : XA w B b room L v (.slice a m c) m L1) (hrm : 0 ≤ room) (p : Ky) (f : Int) {u : Value} {ks : List Ky} {n : Nat} (hK : SV w u n (fl eK ks)) (hn : ks.length = n) (h9 : m ≤ 100000) {q : Int} (hres : Sk.put room.toNat L1 p f ks = (L2, q)) (hm2 : L2.length = m2) :
    Calls Try.prog 15 #[.agg (RSR (.slice a m c) room), .agg (cs U8 p.l), .int .i64 f, u] w fun e w' =>
      ∃ ur : Option Addr × Nat, e = .returned (.tuple #[.agg (RSR (.slice ur.1 m2 ur.2) room), .int .i64 q]) ∧ XA w' B b room L v (.slice ur.1 m2 ur.2) m2 L2 ∧ Fr (XF b v (.slice a m c)) w w' ∧ ∀ g, XF b v (.slice ur.1 m2 ur.2) g → XF b v (.slice a m c) g ∨ w.heap.size ≤ g := by
  subst hn
  have := rput_c w B a m c L1 room (by rw [X.ln]; exact X.ow) X.ln X.Bw h9 p f u ks hK hrm
  rw [hres] at this
  exact this.mono fun e w' h => h.obx X hm2
theorem rdrop_x (w : World) (X : XA w B b room L v (.slice a m c) m L1) (p : Ky) (n : Int) (h9 : m ≤ 100000) {q : Int} (hres : Sk.drop L1 p n = (L2, q)) (hm2 : L2.length = m2) :
    Calls Try.prog 16 #[.agg (RSR (.slice a m c) room), .agg (cs U8 p.l), .int .i64 n] w fun e w' =>
      ∃ ur : Option Addr × Nat, e = .returned (.tuple #[.agg (RSR (.slice ur.1 m2 ur.2) room), .int .i64 q]) ∧ XA w' B b room L v (.slice ur.1 m2 ur.2) m2 L2 ∧ Fr (XF b v (.slice a m c)) w w' ∧ ∀ g, XF b v (.slice ur.1 m2 ur.2) g → XF b v (.slice a m c) g ∨ w.heap.size ≤ g := by
  have := rdrop_c w B a m c L1 room (by rw [X.ln]; exact X.ow) X.ln X.Bw h9 p n
  rw [hres] at this
  exact this.mono fun e w' h => h.obx X hm2
theorem rget_x (w : World) (X : XA w B b room L v (.slice a m c) m L1) (p : Ky) (n : Int) {k : Ky} {q : Int} (hres : Sk.get L1 p n = (k, q)) :
    Calls Try.prog 19 #[.agg (RSR (.slice a m c) room), .agg (cs U8 p.l), .int .i64 n] w fun e w' => e = .returned (.tuple #[.agg (cs U8 k.l), .int .i64 q]) ∧ Below w.heap.size w w' := by
  have := rget_c w a m c L1 room X.ow.sv X.ln p n
  rw [hres] at this
  exact this
end
theorem Sk.put_le {room : Nat} {L L' : List Sk.En} {p : Ky} {f : Int} {ks : List Ky} {q : Int} (h : Sk.put room L p f ks = (L', q)) (hL : L.length ≤ room) : L'.length ≤ room := by
  unfold Sk.put at h
  split at h
  · injection h with h; rw [← h]; exact hL
  · split at h
    · injection h with h; rw [← h]; exact hL
    · split at h
      · injection h with h; rw [← h]; exact hL
      · injection h with h; rw [← h, List.length_append, Sk.mk_len]; omega
theorem Sk.drop_le {L L' : List Sk.En} {p : Ky} {n : Int} {q : Int} (h : Sk.drop L p n = (L', q)) : L'.length ≤ L.length := by
  unfold Sk.drop at h
  split at h
  · injection h with h; rw [← h]; exact List.length_eraseIdx_le L _
  · injection h with h; rw [← h]; exact Nat.le_refl _
theorem xb_rst1 (w : World) (n : Int) : exBuild Try.prog 45 #[(1, .int .i64 n)] w = .ok (.value (.agg (RSR (.slice none 0 0) n))) w := by
  unfold exBuild
  rw [run_build w 45 _ (RSR (.slice none 0 0) n) ?_]
  · rfl
  kernel_rfl
end Go.Proofs.Ytojkcbhmhfjioaa
