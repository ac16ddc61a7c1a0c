/- The plain law LzAgain. -/
import Derived.Test.YtahemhjlfajlkaaPLx20
import Derived.Test.YtahemhjlfajlkaaXLaws
namespace Go.Proofs.Ytahemhjlfajlkaa.Pure
open Go.RowKit Go.Proofs.Ytahemhjlfajlkaa.PL Go.Proofs.YtahemhjlfajlkaaW.PrintWords Go.Proofs.YtahemhjlfajlkaaW.PrintLast
set_option linter.unusedVariables false
set_option maxHeartbeats 2000000

def rep (s : ByteArray) : Nat → ByteArray
  | 0 => ⟨#[]⟩
  | n + 1 => rep s n ++ s
theorem rep_bytes (s : ByteArray) : ∀ n, bytesN (rep s n) = (List.replicate n (bytesN s)).flatten := by
  intro n
  induction n with
  | zero => rfl
  | succ n ih => simp only [rep]; rw [bytesN_append, ih, List.replicate_succ', List.flatten_append]; simp
theorem rep_bytes' (s : ByteArray) (n : Nat) : bytesN (rep s (n + 1)) = bytesN s ++ bytesN (rep s n) := by
  rw [rep_bytes, rep_bytes, List.replicate_succ, List.flatten_cons]
theorem rep_size (s : ByteArray) : ∀ n, (rep s n).size = n * s.size := by
  intro n
  induction n with
  | zero => rw [Nat.zero_mul]; rfl
  | succ n ih => simp only [rep]; rw [ByteArray.size_append, ih, Nat.succ_mul]
theorem rep_border (s : ByteArray) (n : Nat) (hs : 0 < s.size) : isB (rep s (n + 1)) (rep s (n + 1)).size (rep s n).size := by
  have e : (rep s (n + 1)).size = (rep s n).size + s.size := by simp only [rep]; rw [ByteArray.size_append]
  refine ⟨by omega, fun t ht => ?_⟩
  rw [e, show (rep s n).size + s.size - (rep s n).size + t = s.size + t by omega, byteAt_getD, byteAt_getD]
  have h1 : bytesN (rep s (n + 1)) = bytesN (rep s n) ++ bytesN s := by simp only [rep]; rw [bytesN_append]
  have a1 : (bytesN (rep s (n + 1))).getD t 0 = (bytesN (rep s n)).getD t 0 := by
    rw [h1]; simp only [List.getD]; rw [List.getElem?_append_left (by rw [bytesN_length]; exact ht)]
  have a2 : (bytesN (rep s (n + 1))).getD (s.size + t) 0 = (bytesN (rep s n)).getD t 0 := by
    rw [rep_bytes']; simp only [List.getD]; rw [List.getElem?_append_right (by rw [bytesN_length]; omega), bytesN_length, show s.size + t - s.size = t by omega]
  rw [a1, a2]
theorem rep_short (s : ByteArray) (n : Nat) (hs : s.size ≤ 1000) (hn : n ≤ 31) : (packB (rep s (n + 1))).size ≤ s.size + 20 := by
  have e : (rep s (n + 1)).size = (rep s n).size + s.size := by simp only [rep]; rw [ByteArray.size_append]
  have e2 : (rep s n).size ≤ 31 * 1000 := by rw [rep_size]; exact Nat.mul_le_mul hn hs
  by_cases h0 : s.size = 0
  · have := pack_short (rep s (n + 1)) (by omega)
    rw [rep_size, h0, Nat.mul_zero] at this; omega
  have hb := piN_max _ _ _ (rep_border s n (by omega))
  have hpi : piN (rep s (n + 1)) (rep s (n + 1)).size ≤ (rep s (n + 1)).size := piF_le _ _ _
  have h2 := again_short (rep s (n + 1)) (by omega) (s.size + 2) (fun hc => by omega) (by omega)
  have := pack_le_again (rep s (n + 1))
  omega
theorem loop_ev (s : ByteArray) (hs : s.size ≤ 1000) (m : Nat) (hm : m ≤ 31) (d : Nat) : ∀ i, i + d = m + 1 → Ev (fun k => headgatelaw32_LzAgain.l0 k s ((m + 1 : Nat) : Int) (rep s i) (i : Int)) true := by
  have hbig (i : Nat) (hi : i ≤ m + 1) : (rep s i).size ≤ 32000 := by rw [rep_size]; have := Nat.mul_le_mul (show i ≤ 32 by omega) hs; omega
  induction d with
  | zero =>
    intro i hi
    have := hbig i (by omega)
    refine Ev.step (f := ?f1) (fun k => ?_) ?_
    rotate_left
    · simp only [headgatelaw32_LzAgain.l0]; rfl
    refine Ev.congr (fun k => if_neg (by omega)) ?_
    have hp := pack_short (rep s i) (by omega)
    refine Ev.bind (pack_ev _ (by omega)) ?_
    have u := unpack_ev (packB (rep s i)) 1048576 (by omega)
    rw [unpack_pack (rep s i) (by omega) 1048576 (by decide) (by decide), if_pos (by omega)] at u
    refine Ev.bind u ?_
    obtain rfl : i = m + 1 := by omega
    have hsh := rep_short s m hs hm
    refine Ev.congr (fun k => if_pos rfl) ?_
    refine Ev.congr (fun k => if_pos (by rw [wrapS _ (by omega) (by omega)]; show ((packB (rep s (m + 1))).size : Int) ≤ _; omega)) ?_
    refine Ev.congr (fun k => if_pos rfl) ?_
    exact Ev.congr (fun k => if_pos rfl) (Ev.bind awake_ev (Ev.now _))
  | succ d ih =>
    intro i hi
    have := hbig i (by omega)
    refine Ev.step (f := ?f2) (fun k => ?_) ?_
    rotate_left
    · simp only [headgatelaw32_LzAgain.l0]; rfl
    refine Ev.congr (fun k => if_pos (by omega)) ?_
    refine Ev.congr (fun k => if_pos (by omega)) ?_
    rw [wrapS _ (by omega) (by omega)]
    have := ih (i + 1) (by omega)
    exact this
theorem and31 (n : Int) (h : (Lit.int .i64 n).wf = true) : ∃ m : Nat, m ≤ 31 ∧ Go.bits .and .i64 n 31 = (m : Int) := by
  refine ⟨(Go.bits .and .i64 n 31).toNat, ?_⟩
  have hb : 0 ≤ Go.bits .and .i64 n 31 ∧ Go.bits .and .i64 n 31 ≤ 31 := by
    have e : Go.bits .and .i64 n 31 = IntKind.i64.wrap ((BitVec.ofInt 64 n &&& BitVec.ofInt 64 31).toNat : Int) := rfl
    have e2 : (BitVec.ofInt 64 n &&& BitVec.ofInt 64 31).toNat ≤ 31 := by
      rw [BitVec.toNat_and]
      exact Nat.le_trans Nat.and_le_right (by decide)
    rw [e, IntKind.wrap_i64]
    omega
  omega
theorem again_j0 (s : ByteArray) (n : Int) (hs : s.size ≤ 1000) (hn : (Lit.int .i64 n).wf = true) : Ev (fun k => headgatelaw32_LzAgain.j0 k s n) true := by
  obtain ⟨m, hm, e⟩ := and31 n hn
  refine Ev.step (f := ?f1) (fun k => ?_) ?_
  rotate_left
  · simp only [headgatelaw32_LzAgain.j0]; rfl
  rw [e, wrapS _ (by omega) (by omega), show (1 : Int) + (m : Int) = ((m + 1 : Nat) : Int) by omega]
  exact loop_ev s hs m hm (m + 1) 0 (by omega)
theorem LzAgain : headgatelaw32_LzAgain.Pure := by
  intro a0 a1 h0 h1
  apply Ev.rounds
  unfold headgatelaw32_LzAgain.f
  by_cases h : (a0.size : Int) > 1000
  · refine Ev.congr (fun k => if_pos h) ?_
    refine Ev.congr (fun k => if_pos (by decide)) ?_
    refine Ev.congr (fun k => if_pos (by omega)) ?_
    exact again_j0 _ _ (by rw [ByteArray.size_extract]; omega) h1
  · exact Ev.congr (fun k => if_neg h) (again_j0 _ _ (by omega) h1)

end Go.Proofs.Ytahemhjlfajlkaa.Pure
