/- What lz.parts comes to. -/
import Derived.Test.YtahemhjlfajlkaaXKey
import Derived.Test.YtahemhjlfajlkaaXPack1
import Derived.Test.YtahemhjlfajlkaaXPer
import Derived.Test.YtahemhjlfajlkaaPLx13
namespace Go.Proofs.Ytahemhjlfajlkaa.PL
open Go.RowKit Go.Proofs.YtahemhjlfajlkaaW.PrintWords Go.Proofs.YtahemhjlfajlkaaW.PrintLast Go.Proofs.YtahemhjlfajlkaaW.PrintMore
set_option linter.unusedVariables false
set_option linter.unusedSimpArgs false

/-! ### lz.parts -/
def sameG (s : ByteArray) (p q : Nat) : Bool := decide (byteAt s p = byteAt s q ∧ byteAt s (p + 1) = byteAt s (q + 1) ∧ byteAt s (p + 2) = byteAt s (q + 2) ∧ byteAt s (p + 3) = byteAt s (q + 3))
def lastOcc (s : ByteArray) : Nat → Nat → Option Nat
  | 0, _ => none
  | i + 1, q => if sameG s i q then some i else lastOcc s i q
def alikeF : Nat → ByteArray → Nat → Nat → Nat
  | 0, _, _, _ => 0
  | f + 1, s, a, b => if b < s.size ∧ byteAt s a = byteAt s b then 1 + alikeF f s (a + 1) (b + 1) else 0
def alikeN (s : ByteArray) (a b : Nat) : Nat := alikeF (s.size - b) s a b
theorem gramV_eq (s : ByteArray) (p q : Nat) : gramV s p = gramV s q ↔ sameG s p q = true := by
  unfold gramV sameG
  rw [decide_eq_true_iff]
  constructor
  · intro h
    injection h with h
    have := congrArg Array.toList h
    simp only [List.cons.injEq, Value.int.injEq, true_and] at this
    omega
  · rintro ⟨h1, h2, h3, h4⟩
    rw [h1, h2, h3, h4]
theorem byteAt_lt (s : ByteArray) (i : Nat) : byteAt s i < 256 := UInt8.toNat_lt _
theorem keyGram (s : ByteArray) (q : Nat) : ∃ l, keyOf Try.prog 54 (gramV s q) = some l :=
  keyArr _ _ _ _ (byteAt_lt _ _) (byteAt_lt _ _) (byteAt_lt _ _) (byteAt_lt _ _)
def MG (s : ByteArray) (w : World) (B i : Nat) : Prop := ∃ M, MapI Try.prog 54 3 w B i M ∧ ∀ q, M (gramV s q) = (lastOcc s i q).map Int.ofNat
theorem MG_made (s : ByteArray) (w : World) : MG s (w.alloc (.map #[] 0)) w.heap.size 0 := ⟨_, MapI_made _ _ _ w, fun q => rfl⟩
theorem MG_below {s : ByteArray} {w w' : World} {B i : Nat} (h : MG s w B i) (hb : Below w.heap.size w w') : MG s w' B i := by
  obtain ⟨M, h1, h2⟩ := h
  exact ⟨M, h1.below hb, h2⟩
theorem MG_upd {s : ByteArray} {w' : World} {B i : Nat} {M : Value → Option Int} (h : ∀ q, M (gramV s q) = (lastOcc s i q).map Int.ofNat) (h' : MapI Try.prog 54 3 w' B (i + 1) (upd M (gramV s i) i)) : MG s w' B (i + 1) := by
  refine ⟨_, h', fun q => ?_⟩
  unfold lastOcc
  by_cases e : sameG s i q = true
  · rw [if_pos e, ← (gramV_eq s i q).mpr e, upd_same]; rfl
  · rw [if_neg e, upd_other (fun x => e ((gramV_eq s i q).mp x.symm)), h q]
theorem bt_byteAt (s : ByteArray) (i : Nat) (h : i < s.size) : bt s (i : Int) = ((byteAt s i : Nat) : Int) := by
  rw [← bt_at s (i : Int) h]
  unfold byteAt
  have h' : i < s.data.toList.length := by rw [Array.length_toList]; exact h
  congr 1
  simp only [List.getD, List.getElem?_eq_getElem h', Option.getD_some]
  rfl
theorem wrapN (i : Nat) (h : i ≤ 9223372036854775807) : wrap64 (i : Int) = (i : Int) := by unfold wrap64; omega
theorem alike_l0 (s : ByteArray) (hs : s.size ≤ 1048576) (a b : Nat) (hab : a ≤ b) (d : Nat) : ∀ n : Nat, b + n + d = s.size → Ev (fun k => lz_alike.l0 k s a b n) ((n + alikeF d s (a + n) (b + n) : Nat) : Int) := by
  induction d with
  | zero =>
    intro n hn
    refine Ev.step (fun k => ?_) (Ev.now _)
    simp only [lz_alike.l0]
    rw [show (b : Int) + (n : Int) = ((b + n : Nat) : Int) by omega, wrapN _ (by omega), if_neg (by omega)]
    rfl
  | succ d ih =>
    intro n hn
    have e1 : wrap64 ((b : Int) + (n : Int)) = ((b + n : Nat) : Int) := by rw [show (b : Int) + (n : Int) = ((b + n : Nat) : Int) by omega, wrapN _ (by omega)]
    have e2 : wrap64 ((a : Int) + (n : Int)) = ((a + n : Nat) : Int) := by rw [show (a : Int) + (n : Int) = ((a + n : Nat) : Int) by omega, wrapN _ (by omega)]
    have e3 : wrap64 ((n : Int) + 1) = ((n + 1 : Nat) : Int) := by rw [show (n : Int) + 1 = ((n + 1 : Nat) : Int) by omega, wrapN _ (by omega)]
    have H := ih (n + 1) (by omega)
    refine Ev.step (f := fun k => if byteAt s (a + n) = byteAt s (b + n) then lz_alike.l0 k s a b ((n + 1 : Nat) : Int) else some (n : Int)) (fun k => ?_) ?_
    · simp only [lz_alike.l0]
      rw [e1, e2, e3, if_pos (by omega), if_pos (by omega), if_pos (by omega), if_pos (by omega), bt_byteAt s _ (by omega), bt_byteAt s _ (by omega)]
      by_cases h : byteAt s (a + n) = byteAt s (b + n)
      · rw [if_pos (by omega), if_pos h]
      · rw [if_neg (by omega), if_neg h]
    · simp only [alikeF]
      by_cases h : byteAt s (a + n) = byteAt s (b + n)
      · rw [if_pos ⟨by omega, h⟩]
        refine Ev.congr (fun k => if_pos h) ?_
        rw [show n + (1 + alikeF d s (a + n + 1) (b + n + 1)) = n + 1 + alikeF d s (a + (n + 1)) (b + (n + 1)) by rw [Nat.add_assoc a, Nat.add_assoc b]; omega]
        exact H
      · rw [if_neg (fun x => h x.2)]
        exact Ev.congr (fun k => if_neg h) (Ev.now _)
theorem alike_ev (s : ByteArray) (hs : s.size ≤ 1048576) (a b : Nat) (hab : a ≤ b) (hb : b ≤ s.size) : ∃ k, lz_alike.f k s a b = some ((alikeN s a b : Nat) : Int) := by
  have H := alike_l0 s hs a b hab (s.size - b) 0 (by omega)
  obtain ⟨k, hk⟩ := H.rounds
  refine ⟨k, ?_⟩
  unfold lz_alike.f alikeN
  rw [show ((0 + alikeF (s.size - b) s (a + 0) (b + 0) : Nat) : Int) = ((alikeF (s.size - b) s a b : Nat) : Int) by simp] at hk
  exact hk
theorem alikeF_le (d : Nat) (s : ByteArray) : ∀ a b, alikeF d s a b ≤ d := by
  induction d with
  | zero => intro a b; exact Nat.le_refl _
  | succ d ih =>
    intro a b
    simp only [alikeF]
    split
    · have := ih (a + 1) (b + 1); omega
    · omega
theorem alikeN_le (s : ByteArray) (a b : Nat) (hb : b ≤ s.size) : b + alikeN s a b ≤ s.size := by
  have := alikeF_le (s.size - b) s a b
  unfold alikeN; omega
theorem alikeF_four (s : ByteArray) (a b d : Nat) (hd : 4 ≤ d) (hb : b + 4 ≤ s.size) (h : sameG s a b = true) : 4 ≤ alikeF d s a b := by
  obtain ⟨h0, h1, h2, h3⟩ := of_decide_eq_true h
  obtain ⟨d, rfl⟩ : ∃ e, d = e + 4 := ⟨d - 4, by omega⟩
  simp only [alikeF]
  rw [if_pos ⟨by omega, h0⟩, if_pos ⟨by omega, h1⟩, if_pos ⟨by omega, h2⟩, if_pos ⟨by omega, h3⟩]
  omega
theorem lastOcc_some (s : ByteArray) (i q p : Nat) (h : lastOcc s i q = some p) : p < i ∧ sameG s p q = true := by
  induction i with
  | zero => cases h
  | succ i ih =>
    simp only [lastOcc] at h
    by_cases e : sameG s i q = true
    · rw [if_pos e] at h; obtain rfl := Option.some.inj h; exact ⟨by omega, e⟩
    · rw [if_neg e] at h; have := ih h; exact ⟨by omega, this.2⟩
/-- Part by part. -/
def partsF (s : ByteArray) : Nat → Nat → Nat → List UInt8 → List UInt8
  | 0, _, _, out => out
  | f + 1, i, start, out =>
    if i + 4 ≤ s.size then
      match lastOcc s i i with
      | none => partsF s f (i + 1) start out
      | some p => if i - p > 4096 then partsF s f (i + 1) start out
        else partsF s f (i + alikeN s p i) (i + alikeN s p i) (out ++ litL (s.extract start i) ++ (putAllB [2 * ((alikeN s p i : Int) - 4) + 1, (i : Int) - p]).data.toList)
    else out ++ litL (s.extract start s.size)
theorem partsF_fuel (s : ByteArray) : ∀ (f i start : Nat) (out : List UInt8) (f' : Nat), i ≤ s.size → s.size + 1 ≤ f + i → s.size + 1 ≤ f' + i → partsF s f i start out = partsF s f' i start out := by
  intro f
  induction f with
  | zero => intro i start out f' hi h h'; omega
  | succ f ih =>
    intro i start out f' hi h h'
    obtain ⟨f', rfl⟩ : ∃ g, f' = g + 1 := ⟨f' - 1, by omega⟩
    simp only [partsF]
    by_cases h4 : i + 4 ≤ s.size
    · rw [if_pos h4, if_pos h4]
      rcases hL : lastOcc s i i with _ | p
      · exact ih _ _ _ _ (by omega) (by omega) (by omega)
      · simp only
        by_cases hf : i - p > 4096
        · rw [if_pos hf, if_pos hf]; exact ih _ _ _ _ (by omega) (by omega) (by omega)
        · rw [if_neg hf, if_neg hf]
          have h5 : 4 ≤ alikeN s p i := alikeF_four s p i _ (by omega) h4 (lastOcc_some s i i p hL).2
          have h6 := alikeN_le s p i hi
          exact ih _ _ _ _ h6 (by omega) (by omega)
    · rw [if_neg h4, if_neg h4]
def partsL (s : ByteArray) : List UInt8 := partsF s (s.size + 1) 0 0 []
theorem isBuilder_grown {T e B b : Nat} {bs : List Value} {w w' : World} {m : Nat} (h : Lib.IsBuilder T e B b bs w) (hg : w.grownBy w' (some m)) (hm : ∃ es c, w.heap[m]? = some (.map es c)) : Lib.IsBuilder T e B b bs w' := by
  obtain ⟨es, c, hm⟩ := hm
  have key : ∀ p, Lib.BuilderAt T e B b p bs w → Lib.BuilderAt T e B b p bs w' := by
    rintro p ⟨hB, v, hb, hown, hn⟩
    refine ⟨hB, v, blk_grown hb hg (fun x => ?_), hown.kept hg (.inr fun x => ?_), hn⟩
    · injection x with x; subst x; rw [hb] at hm; cases hm
    · rcases hown.2 with ⟨hv, _⟩ | ⟨g, cap, cur, hv, _, hc, _⟩
      · rw [hv] at x; cases x
      · rw [hv] at x; injection x with x; subst x; rw [hc] at hm; cases hm
  rcases h with h | h
  · exact .inl (key _ h)
  · exact .inr (key _ h)
theorem MapI.block {P : Program} {k e : TypeId} {w : World} {b n : Nat} {M : Value → Option Int} (h : MapI P k e w b n M) : ∃ es c, w.heap[b]? = some (.map es c) := by
  obtain ⟨D, ⟨es, c, hb, _⟩, _⟩ := h
  exact ⟨es, c, hb⟩
theorem isBuilder_drewN {T e B b : Nat} {bs : List Value} {w : World} (h : Lib.IsBuilder T e B b bs w) (n : Nat) : Lib.IsBuilder T e B b bs (w.drewN n) := isBuilder_below h (below_drewN' (Below.refl _ _) n)
theorem MG_drewN {s : ByteArray} {w : World} {B i : Nat} (h : MG s w B i) (n : Nat) : MG s (w.drewN n) B i := MG_below h (below_drewN' (Below.refl _ _) n)
theorem litL_len (s : ByteArray) : (litL s).length ≤ 10 + s.size := by
  unfold litL
  split
  · simp
  · have e : (putB (2 * (s.size : Int))).data.toList.length = (putB (2 * (s.size : Int))).size := Array.length_toList
    have e2 : s.data.toList.length = s.size := Array.length_toList
    have := putB_size (2 * (s.size : Int))
    rw [List.length_append, e, e2]; omega
theorem putAllB_size (xs : List Int) : (putAllB xs).size ≤ 10 * xs.length := by
  have := putsL_len xs
  show (putsL xs).toArray.size ≤ _
  simpa using this
theorem MG_kept {s : ByteArray} {w w' : World} {B i : Nat} (h : MG s w B i) (hk : MapsKept w w') : MG s w' B i := by
  obtain ⟨M, ⟨D, ⟨es, c, hb, hf⟩, h2⟩, h3⟩ := h
  exact ⟨M, ⟨D, ⟨es, c, hk _ _ _ hb, hf⟩, h2⟩, h3⟩
def PRel (w : World) (s : ByteArray) (r : List UInt8) (v5 v6 : Value) (w' : World) : Prop :=
  ∃ (i start : Nat) (out : List UInt8), v5 = .int .i64 start ∧ v6 = .int .i64 i ∧ start ≤ i ∧ i ≤ s.size ∧ out.length ≤ 31 * start ∧ Hid (partsF s (s.size + 1 - i) i start out = r) ∧
    Lib.IsBuilder 43 5 w.heap.size w.heap.size (Lib.byteCells out) w' ∧ Hid (i + 4 ≤ s.size → MG s w' (w.heap.size + 1) i) ∧ Below w.heap.size w w' ∧ w.heap.size + 2 ≤ w'.heap.size
def PIn (w wo : World) (s : ByteArray) (i n : Nat) (out : List UInt8) (v11 : Value) (w' : World) : Prop :=
  ∃ k : Nat, v11 = .int .i64 k ∧ i + 1 ≤ k ∧ k ≤ i + n ∧ k + 3 ≤ s.size ∧ MG s w' (w.heap.size + 1) k ∧ Lib.IsBuilder 43 5 w.heap.size w.heap.size (Lib.byteCells out) w' ∧ Below w.heap.size w w' ∧ w.heap.size + 2 ≤ w'.heap.size
theorem zeroInt (w : World) : (zeroValue 3).run Try.prog w = .ok (.int .i64 0) w := by kernel_rfl
set_option maxHeartbeats 8000000 in
set_option maxRecDepth 100000 in
theorem parts_walk (s : ByteArray) (w : World) (r : List UInt8) (HR : Hid (partsF s (s.size + 1) 0 0 [] = r)) (hs : s.size ≤ 1048576) :
    Calls Try.prog 17 #[.string s] w fun e w' => e = .returned (.string ⟨r.toArray⟩) ∧ Below w.heap.size w w' := by
  have hmm := @run_makeMap Try.prog
  go_enter Try.func17, Try.ntmps17
  go_wp2
  clear hmm
  go_loopw [5, 6] (PRel w s r) (fun _ v _ => s.size - (intOf' v).toNat)
  case atStart =>
    refine ⟨0, 0, [], rfl, rfl, Nat.le_refl _, Nat.zero_le _, Nat.le_refl _, HR, ?_, ?_, below_alloc (below_alloc (Below.refl _ _) _) _, by simp⟩
    · exact isBuilder_below (Lib.fresh_isBuilder 43 5 w) (below_alloc (Below.refl _ _) _)
    · intro _
      have := MG_made s (w.alloc (.cells #[.pointer none, .slice none 0 0] 43))
      rw [show (w.alloc (.cells #[.pointer none, .slice none 0 0] 43)).heap.size = w.heap.size + 1 by simp] at this
      exact this
  case round =>
    obtain ⟨i, start, out, rfl, rfl, h1, h2, h3, HT, hb, HM, HB, hsz⟩ := hrel
    by_cases hlt : i + 4 ≤ s.size
    · have b1 : decide (((i : Int) + 4) ≤ (s.size : Int)) = true := decide_eq_true (by omega)
      have hM := HM.out hlt
      clear HM
      go_wp2_with (go_at_call 24; refine (at_walk s i _ hlt hs).mono ?_)
      rintro e w1 ⟨rfl, hb1⟩
      have hs1 := hb1.size
      have hi1 := isBuilder_below hb hb1
      obtain ⟨M, hMI, hMq⟩ := MG_below hM hb1
      have HB1 := HB.trans (hb1.mono (show w.heap.size ≤ wr.heap.size by omega))
      have hkey := keyGram s i
      have hMk := hMq i
      unfold gramV at hkey hMk ⊢
      have hwf : (Lit.int .i64 (i : Int)).wf = true := WalkArith.wf_i64 (by omega)
      have HQ := Lib.hid hMq
      have hmax : i < maxLen := by unfold maxLen; omega
      clear hMq hM hb HB
      rcases hL : lastOcc s i i with _ | p
      · replace hMk := hMk.trans (congrArg (Option.map Int.ofNat) hL)
        rw [Option.map_none] at hMk
        have HT2 : Hid (partsF s (s.size + 1 - (i + 1)) (i + 1) start out = r) := by
          have := HT.out
          rw [show s.size + 1 - i = (s.size + 1 - (i + 1)) + 1 by omega] at this
          simp only [partsF] at this
          rw [if_pos hlt, hL] at this
          exact this
        clear hL HT
        go_wp2_with (first
          | (at_lookup; refine MapI_look_ok _ rfl _ _ 53 rfl 54 3 lawArr Try.underlying53 Try.underlying3 (zeroInt _) (w.heap.size + 1) i M rfl (hMI.below (below_alloc (Below.refl _ _) _)) _ rfl hkey ?_)
          | (at_mapUpdate; refine MapI_store _ rfl _ _ _ 53 rfl 54 3 lawArr Try.underlying53 Try.underlying3 (w.heap.size + 1) i M rfl (hMI.below (below_alloc (Below.refl _ _) _)) hmax _ (i : Int) rfl rfl hkey hwf ?_; intro w2 hM2 hg2))
        go_roundw
        case rel =>
          refine ⟨i + 1, start, out, rfl, by go_num, by omega, by omega, h3, HT2, ?_, fun _ => MG_upd HQ.out hM2, ?_, ?_⟩
          · exact isBuilder_grown (isBuilder_below hi1 (below_alloc (Below.refl _ _) _)) hg2 (hMI.below (below_alloc (Below.refl _ _) _)).block
          · exact (below_alloc HB1 _).grown hg2 (by simp; omega) (fun j hj => by cases hj; omega)
          · have := hg2.size; simp at this; omega
        case measure => simp [intOf']; omega
      · replace hMk := hMk.trans (congrArg (Option.map Int.ofNat) hL)
        rw [Option.map_some] at hMk
        obtain ⟨hp1, hp2⟩ := lastOcc_some s i i p hL
        by_cases hfar : i - p > 4096
        · have b2 : decide ((4096 : Int) < (i : Int) - (p : Int)) = true := decide_eq_true (by omega)
          have HT2 : Hid (partsF s (s.size + 1 - (i + 1)) (i + 1) start out = r) := by
            have := HT.out
            rw [show s.size + 1 - i = (s.size + 1 - (i + 1)) + 1 by omega] at this
            simp only [partsF] at this
            rw [if_pos hlt, hL] at this
            simp only at this
            rw [if_pos hfar] at this
            exact this
          clear hL HT
          have hMk' : M (.agg #[.int .u8 (byteAt s i), .int .u8 (byteAt s (i + 1)), .int .u8 (byteAt s (i + 2)), .int .u8 (byteAt s (i + 3))]) = some (p : Int) := hMk
          clear hMk
          go_wp2_with (first
            | (at_lookup; refine MapI_look_ok _ rfl _ _ 53 rfl 54 3 lawArr Try.underlying53 Try.underlying3 (zeroInt _) (w.heap.size + 1) i M rfl (hMI.below (below_alloc (Below.refl _ _) _)) _ rfl hkey ?_)
            | (at_mapUpdate; refine MapI_store _ rfl _ _ _ 53 rfl 54 3 lawArr Try.underlying53 Try.underlying3 (w.heap.size + 1) i M rfl (hMI.below (below_alloc (Below.refl _ _) _)) hmax _ (i : Int) rfl rfl hkey hwf ?_; intro w2 hM2 hg2))
          go_roundw
          case rel =>
            refine ⟨i + 1, start, out, rfl, by go_num, by omega, by omega, h3, HT2, ?_, fun _ => MG_upd HQ.out hM2, ?_, ?_⟩
            · exact isBuilder_grown (isBuilder_below hi1 (below_alloc (Below.refl _ _) _)) hg2 (hMI.below (below_alloc (Below.refl _ _) _)).block
            · exact (below_alloc HB1 _).grown hg2 (by simp; omega) (fun j hj => by cases hj; omega)
            · have := hg2.size; simp at this; omega
          case measure => simp [intOf']; omega
        · have b2 : decide ((4096 : Int) < (i : Int) - (p : Int)) = false := decide_eq_false (by omega)
          obtain ⟨n, hn⟩ : ∃ n, n = alikeN s p i := ⟨_, rfl⟩
          have hn1 : i + n ≤ s.size := by rw [hn]; exact alikeN_le s p i h2
          have hn4 : 4 ≤ n := by rw [hn]; exact alikeF_four s p i _ (by omega) hlt hp2
          obtain ⟨kq, hal⟩ := alike_ev s hs p i (by omega) h2
          rw [← hn] at hal
          have HT2 : Hid (partsF s (s.size + 1 - (i + n)) (i + n) (i + n) (out ++ litL (s.extract start i) ++ (putAllB [2 * ((n : Int) - 4) + 1, (i : Int) - p]).data.toList) = r) := by
            have := HT.out
            rw [show s.size + 1 - i = (s.size - i) + 1 by omega] at this
            simp only [partsF] at this
            rw [if_pos hlt, hL] at this
            simp only at this
            rw [if_neg hfar, ← hn] at this
            rw [partsF_fuel s _ _ _ _ (s.size - i) hn1 (by omega) (by omega)]
            exact this
          have HN := Lib.hid hn
          clear hL HT hn
          have hMk' : M (.agg #[.int .u8 (byteAt s i), .int .u8 (byteAt s (i + 1)), .int .u8 (byteAt s (i + 2)), .int .u8 (byteAt s (i + 3))]) = some (p : Int) := hMk
          clear hMk
          go_wp2_with (first
            | (at_lookup; refine MapI_look_ok _ rfl _ _ 53 rfl 54 3 lawArr Try.underlying53 Try.underlying3 (zeroInt _) (w.heap.size + 1) i M rfl (hMI.below (below_alloc (Below.refl _ _) _)) _ rfl hkey ?_)
            | (at_mapUpdate; refine MapI_store _ rfl _ _ _ 53 rfl 54 3 lawArr Try.underlying53 Try.underlying3 (w.heap.size + 1) i M rfl (hMI.below (below_alloc (Below.refl _ _) _)) hmax _ (i : Int) rfl rfl hkey hwf ?_; intro w2 hM2 hg2)
            | (go_at_call 25; refine (lz_alike.calls kq s p i n _ hal).mono ?_; rintro e w3 ⟨rfl, ⟨nd, rfl⟩⟩))
          have hi2 := isBuilder_grown (isBuilder_below hi1 (below_alloc (Below.refl _ _) _)) hg2 (hMI.below (below_alloc (Below.refl _ _) _)).block
          have HB2 := below_drewN' ((below_alloc HB1 _).grown hg2 (by simp; omega) (fun j hj => by cases hj; omega)) nd
          have hs2 : w.heap.size + 2 ≤ (w2.drewN nd).heap.size := by have := hg2.size; simp at this; show _ ≤ w2.heap.size; omega
          have hi3 : Lib.IsBuilder 43 5 w.heap.size w.heap.size (Lib.byteCells out) (w2.drewN nd) := isBuilder_drewN hi2 nd
          have hM3 : MG s (w2.drewN nd) (w.heap.size + 1) (i + 1) := MG_drewN (MG_upd HQ.out hM2) nd
          clear hMI hM2 hg2 hMk' hkey hi1 hi2 HB1
          have hsl : (s.extract start i).size = i - start := by rw [ByteArray.size_extract]; omega
          refine (literal_walk w.heap.size w.heap.size out (s.extract start i) _ hi3 (by omega) (by omega)).mono ?_
          rintro e w4 ⟨rfl, hi4, hb4, hs4, hm4⟩
          have hM4 := MG_kept hM3 hm4
          clear hm4 hM3
          obtain ⟨xs, hxs⟩ : ∃ xs : List Int, xs = [2 * ((n : Int) - 4) + 1, (i : Int) - p] := ⟨_, rfl⟩
          have HXS := Lib.hid hxs
          rw [← hxs] at HT2
          clear hxs
          go_wp2_with fail
          have hpa := putAll_walk w4.heap.size 2 [2 * ((n : Int) - 4) + 1, (i : Int) - p] (w4.alloc (.cells #[.int .i64 (2 * ((n : Int) - 4) + 1), .int .i64 ((i : Int) - p)] 3)) (by simp)
            (fun j hj => by
              rw [blk_cell (blk_new w4 _)]
              match j, hj with
              | 0, _ => rfl
              | 1, _ => rfl)
          refine hpa.mono ?_
          clear hpa
          rintro e w5 ⟨rfl, hb5⟩
          rw [← HXS.out]
          have hb45 : Below w4.heap.size w4 w5 := (below_alloc (Below.refl _ _) _).trans (hb5.mono (by simp))
          have hi5 := isBuilder_below hi4 hb45
          have hs5 := hb45.size
          have hll := litL_len (s.extract start i)
          have hpl := putAllB_size xs
          have hxl : xs.length = 2 := by rw [HXS.out]; rfl
          have HXL := Lib.hid hxl
          have hol : (out ++ litL (s.extract start i)).length + (putAllB xs).size ≤ 31 * (i + n) := by rw [List.length_append]; omega
          clear hxl
          go_wp2_with fail
          refine (write_l w.heap.size w.heap.size (out ++ litL (s.extract start i)) (putAllB xs) _ hi5 (by omega) (by omega)).mono ?_
          rintro e w6 ⟨rfl, hi6, hb6, hs6, hm6⟩
          have hsz6 : w.heap.size + 2 ≤ w6.heap.size := by have := hb4.size; have := hb6.size; omega
          have HB6 := ((HB2.trans hb4).trans (hb45.mono hs4)).trans hb6
          have hM6 := MG_kept (MG_below hM4 hb45) hm6
          clear hm6 hM4
          have hol2 : (out ++ litL (s.extract start i) ++ (putAllB xs).data.toList).length ≤ 31 * (i + n) := by
            rw [List.length_append, Array.length_toList]; exact hol
          go_wp2_with fail
          clear hb4 hs4 hb45 hs5 hb6 hi3 hi4 hi5 hll hpl hal HB2 hs2 hol hwf hmax
          obtain ⟨wo, hwo⟩ : ∃ wo : World, wo = wr := ⟨_, rfl⟩
          clear hwo
          go_loopw [11] (PIn w wo s i n (out ++ litL (s.extract start i) ++ (putAllB xs).data.toList)) (fun v _ => s.size - (intOf' v).toNat)
          case atStart => exact ⟨i + 1, by go_num, by omega, by omega, by omega, hM6, hi6, HB6, hsz6⟩
          case round =>
            obtain ⟨k, rfl, g1, g2, g3, hMk, hik, HBk, hsk⟩ := hrel
            clear hM6 hi6 HB6 hs6
            by_cases hk1 : k < i + n ∧ k + 4 ≤ s.size
            · obtain ⟨hk1, hk2⟩ := hk1
              have d1 : decide ((k : Int) < (i : Int) + (n : Int)) = true := decide_eq_true (by omega)
              have d2 : decide ((k : Int) + 4 ≤ (s.size : Int)) = true := decide_eq_true (by omega)
              go_wp2_with (go_at_call 24; refine (at_walk s k _ hk2 hs).mono ?_)
              rintro e w7 ⟨rfl, hb7⟩
              obtain ⟨M7, hMI7, hMq7⟩ := MG_below hMk hb7
              have hkey7 := keyGram s k
              have hi7 := isBuilder_below hik hb7
              have hs7 := hb7.size
              have HB7 := HBk.trans (hb7.mono (show w.heap.size ≤ _ by omega))
              unfold gramV at hkey7 ⊢
              have hwf7 : (Lit.int .i64 (k : Int)).wf = true := WalkArith.wf_i64 (by omega)
              have HQ7 := Lib.hid hMq7
              have hmax7 : k < maxLen := by unfold maxLen; omega
              clear hMq7 hMk hik HBk hb7
              go_wp2_with (at_mapUpdate; refine MapI_store _ rfl _ _ _ 53 rfl 54 3 lawArr Try.underlying53 Try.underlying3 (w.heap.size + 1) k M7 rfl hMI7 hmax7 _ (k : Int) rfl rfl hkey7 hwf7 ?_; intro w8 hM8 hg8)
              go_roundw
              case rel =>
                refine ⟨k + 1, by go_num, by omega, by omega, by omega, MG_upd HQ7.out hM8, isBuilder_grown hi7 hg8 hMI7.block, HB7.grown hg8 (by omega) (fun j hj => by cases hj; omega), ?_⟩
                have := hg8.size; omega
              case measure => simp [intOf']; omega
            · have d1 : ∀ h : k < i + n, decide ((k : Int) + 4 ≤ (s.size : Int)) = false := fun h => decide_eq_false (by omega)
              by_cases hk2 : k < i + n
              · have d2 : decide ((k : Int) < (i : Int) + (n : Int)) = true := decide_eq_true (by omega)
                have d3 := d1 hk2
                have hno : ¬ (i + n + 4 ≤ s.size) := by omega
                clear d1 hk1
                go_wp2
                refine ⟨⟨i + n, i + n, _, by go_num, by go_num, Nat.le_refl _, hn1, hol2, HT2, hik, fun h => absurd h hno, HBk, hsk⟩, by simp [intOf']; omega⟩
              · have d2 : decide ((k : Int) < (i : Int) + (n : Int)) = false := decide_eq_false (by omega)
                have hke : k = i + n := by omega
                have HKE := Lib.hid hke
                clear d1 hk1 hke
                go_wp2
                refine ⟨⟨i + n, i + n, _, by go_num, by go_num, Nat.le_refl _, hn1, hol2, HT2, hik, fun _ => by have := HKE.out; rw [← this]; exact hMk, HBk, hsk⟩, by simp [intOf']; omega⟩
    · have b1 : decide (((i : Int) + 4) ≤ (s.size : Int)) = false := decide_eq_false (by omega)
      have HT2 : Hid (out ++ litL (s.extract start s.size) = r) := by
        have := HT.out
        rw [show s.size + 1 - i = (s.size - i) + 1 by omega] at this
        simp only [partsF] at this
        rw [if_neg hlt] at this
        exact this
      have hsl : (s.extract start s.size).size = s.size - start := by rw [ByteArray.size_extract]; omega
      have c1 : (0 ≤ (start : Int)) = True := eq_true (by omega)
      have c2 : ((start : Int) ≤ (s.size : Int)) = True := eq_true (by omega)
      clear HM HT
      go_wp2_with (go_at_call 20; refine (literal_walk w.heap.size w.heap.size out (s.extract start s.size) _ hb (by omega) (by omega)).mono ?_)
      rintro e w1 ⟨rfl, hi1, hb1, hs1, -⟩
      go_wp2_with (go_at_call 23; refine (Try.Builder_String_any w.heap.size w.heap.size _ _ hi1 hs1).mono ?_)
      rintro e w2 ⟨rfl, hb2⟩
      rw [HT2.out]
      go_wp2
      go_ret
      exact ⟨rfl, (HB.trans hb1).trans hb2⟩
end Go.Proofs.Ytahemhjlfajlkaa.PL
