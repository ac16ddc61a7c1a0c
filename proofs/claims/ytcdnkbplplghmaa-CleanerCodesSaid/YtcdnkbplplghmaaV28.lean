/- CleanerCodes: any changes have the bytes that the document says, or may not be; any bytes are those of changes, or none's. -/
import Derived.Test.YtcdnkbplplghmaaV13
import Derived.Test.YtcdnkbplplghmaaV27
import Derived.Test.YtcdnkbplplghmaaFwL
import Derived.Test.YtcdnkbplplghmaaFwW
import Derived.Test.YtcdnkbplplghmaaFwB
import Derived.Test.YtcdnkbplplghmaaMbase0
import Derived.Test.YtcdnkbplplghmaaMmid0
import Derived.Test.YtcdnkbplplghmaaMcod0
namespace Go.Proofs.Ytcdnkbplplghmaa.M
open Go.Proofs.Ytcdnkbplplghmaa.F Go.RowKit
set_option linter.unusedVariables false
set_option linter.unusedSimpArgs false
set_option maxRecDepth 100000
set_option maxHeartbeats 2000000
attribute [local irreducible] Res.cells Res.row Res.map Res.any World.cell? World.frozen? Instr.fieldAt Instr.loadAt Instr.storeAt Instr.indexAt Instr.lookup Instr.mapUpdate Instr.box Instr.build Instr.buildSlice Instr.extract Instr.alloc Instr.field Instr.index Instr.sliceAt Instr.makeSlice Instr.makeMap Instr.makeFunc binS Op.unary Sem.run
theorem cutT_size (s : ByteArray) : (cutT s).size ≤ 600 := by
  unfold cutT
  split
  · rw [extract_size _ _ (by omega)]
    omega
  · omega
theorem cut_okS {l : List Gt} (h : ∀ g ∈ l, GtOk g) : ∀ g ∈ (l.take 150).map cutG, GtS g := fun g hg => by
  refine ⟨cut_ok h g hg, ?_⟩
  obtain ⟨x, hx, rfl⟩ := List.mem_map.1 hg
  have := cutT_size x.r.text
  show (cutT x.r.text).size ≤ 1000
  omega
theorem decS_len (s : ByteArray) : ((decS s).getD []).length ≤ 4096 := by
  have key : ∀ l, decS s = some l → MayL l := fun l h => by
    rw [decS_G] at h
    split at h
    · cases h
    · split at h
      · cases h
      · unfold decG at h
        split at h
        · split at h
          · cases h
          · split at h
            · rename_i h2
              obtain rfl := Option.some.inj h
              exact h2.2
            · cases h
        · cases h
  cases h : decS s with
  | none => simp
  | some l => exact (key l h).2
section
variable {w0 : World} {l : List Gt} {A : Option Addr} {c : Nat}
theorem ccodes_ret {s : ByteArray} (hs : s.size ≤ 140737488351232) (hl : Rd w0 4 A l.length (l.flatMap encG)) (hc : l.length ≤ c) (hok : ∀ g ∈ l, GtOk g) : Ret Try.prog 6 #[.slice A l.length c, .string s] w0 fun v w' => v = .bool true ∧ Below w0.heap.size w0 w' := by
  have hS := St.start w0
  have hlen := cut_len l
  have hgs := cut_okS hok
  refine s6 _ _ ?_
  unfold m6 m6_0 m6_1
  refine callR (by kernel_rfl) (some_ret hc (Bes.of_old0 (Rd.takeS encG_len 150 hl)) hS) ?_
  rintro _ w ⟨A1, c1, rfl, hS⟩
  generalize (l.take 150).map cutG = ls at *
  unfold m6_2
  refine builtin_ok (len9 _) ?_
  refine valP_ok (gtr_ok _ _ _ _ _ _ _) ?_
  unfold m6_16
  refine cond_split (fun h => ?_) (fun h => ?_)
  · refine callR (by kernel_rfl) (awake_ret hS) ?_
    rintro _ w ⟨rfl, hS⟩
    unfold m6_17
    exact ⟨rfl, hS.below⟩
  have hsm : s.size ≤ maxLen := by unfold maxLen; omega
  have hB : BG w0 [] [grow A1 c1 ls] A1 ls := Bes.of_row 0 rfl
  unfold m6_3
  refine callR (by kernel_rfl) (encode_ret (by omega) hgs hB hS) ?_
  rintro _ w ⟨rfl, hS⟩
  have hdl := decS_len s
  have tail : ∀ (a : ByteArray) (e : Int) w, St w0 [] w [grow A1 c1 ls] → encV ls = .tuple #[.string a, .int .i64 e] → e = (if MayL ls then 0 else 1) → (∀ w L, St w0 [] w (grow A1 c1 ls :: L) → m6_8 (fun v w' => v = .bool true ∧ Below w0.heap.size w0 w') (.slice A1 ls.length c1) (.string a) (.int .i64 e) w) → m6_4 (fun v w' => v = .bool true ∧ Below w0.heap.size w0 w') (.slice A1 ls.length c1) (.string s) (.string a) (.int .i64 e) w := fun a e w hS he hee hK => by
    unfold m6_4
    refine callR (by kernel_rfl) (rencode_ret (by omega) hgs hB hS) ?_
    rintro _ w ⟨rfl, hS⟩
    rw [he]
    refine valP_ok (extract_ok _ 0 rfl _) ?_
    refine valP_ok (extract_ok _ 1 rfl _) ?_
    unfold m6_5
    refine callR (by kernel_rfl) (decode_ret hsm hS) ?_
    rintro _ w ⟨Ax, cx, rfl, hS⟩
    refine valP_ok (extract_ok _ 0 rfl _) ?_
    refine valP_ok (extract_ok _ 1 rfl _) ?_
    unfold m6_6
    refine callR (by kernel_rfl) (rdecode_ret hsm hS) ?_
    rintro _ w ⟨Ay, cy, rfl, hS⟩
    refine valP_ok (extract_ok _ 0 rfl _) ?_
    refine valP_ok (extract_ok _ 1 rfl _) ?_
    generalize (decS s).getD [] = X at *
    unfold m6_7
    refine valP_ok (ne9 _ _ _ _ _) ?_
    refine cond_df (not_not_intro rfl) ?_
    refine valP_ok (ne3 _ _ _ _ _) ?_
    first | refine pick_dt (by first | assumption | omega) ?_ | refine pick_df (by first | assumption | omega) ?_ | refine pick_t (by first | rfl | assumption) ?_ | refine pick_f (by first | rfl | assumption) ?_ | refine pick_dt rfl ?_ | refine pick_df (not_not_intro rfl) ?_
    refine cond_df (not_not_intro rfl) ?_
    refine callR (by kernel_rfl) (samegot_ret (by omega) (by omega) (Bes.of_row 1 rfl) (Bes.of_row 0 rfl) hS) ?_
    rintro _ w ⟨⟨t, rfl, ht⟩, hS⟩
    have ht := ht.2 rfl
    subst ht
    first | refine valP_ok (not_ok _ _) ?_ | refine valP_ok (notb_ok _ _) ?_
    first | refine pick_dt (by first | assumption | omega) ?_ | refine pick_df (by first | assumption | omega) ?_ | refine pick_t (by first | rfl | assumption) ?_ | refine pick_f (by first | rfl | assumption) ?_ | refine pick_dt rfl ?_ | refine pick_df (not_not_intro rfl) ?_
    refine cond_f rfl ?_
    refine valP_ok (ne3 _ _ _ _ _) ?_
    first | refine pick_dt (by first | assumption | omega) ?_ | refine pick_df (by first | assumption | omega) ?_ | refine pick_t (by first | rfl | assumption) ?_ | refine pick_f (by first | rfl | assumption) ?_ | refine pick_dt rfl ?_ | refine pick_df (not_not_intro rfl) ?_
    refine cond_df (not_not_intro rfl) ?_
    refine callR (by kernel_rfl) (check_ret (l := ls) (by omega) hgs (Bes.of_row 2 rfl) hS) ?_
    rintro _ w ⟨rfl, hS⟩
    refine valP_ok (ne42 _ _ _ _ _) ?_
    first | refine pick_dt (by first | assumption | omega) ?_ | refine pick_df (by first | assumption | omega) ?_ | refine pick_t (by first | rfl | assumption) ?_ | refine pick_f (by first | rfl | assumption) ?_ | refine pick_dt rfl ?_ | refine pick_df (not_not_intro rfl) ?_
    unfold m6_14
    refine cond_df (by rw [hee]; exact not_not_intro rfl) ?_
    exact hK w _ (hS.pick 3 [2, 1, 0] (by simp) (by decide))
  by_cases hM : MayL ls
  · have he : encV ls = .tuple #[.string (sealS (encL ls)), .int .i64 0] := if_pos hM
    rw [he]
    refine valP_ok (extract_ok _ 0 rfl _) ?_
    refine valP_ok (extract_ok _ 1 rfl _) ?_
    refine tail _ _ _ hS he (if_pos hM).symm fun w L hS => ?_
    have hz := encL_size hM
    unfold m6_8
    refine valP_ok (ne42 _ _ _ _ _) ?_
    unfold m6_12
    refine cond_df (by omega) ?_
    unfold m6_9
    refine callR (by kernel_rfl) (decode_ret (by rw [sealS_size]; unfold maxLen; omega) hS) ?_
    rw [dec_enc hM]
    rintro _ w ⟨Az, cz, rfl, hS⟩
    simp only [Option.getD_some] at hS ⊢
    refine valP_ok (extract_ok _ 0 rfl _) ?_
    refine valP_ok (extract_ok _ 1 rfl _) ?_
    unfold m6_10
    refine callR (by kernel_rfl) (samegot_ret (by omega) (by omega) (Bes.of_row 0 rfl) (Bes.of_row 1 rfl) hS) ?_
    rintro _ w ⟨⟨t, rfl, ht⟩, hS⟩
    have ht := ht.2 rfl
    subst ht
    refine cond_t rfl ?_
    refine valP_ok (eq42 _ _ _ _ _) ?_
    first | refine pick_dt (by first | assumption | omega) ?_ | refine pick_df (by first | assumption | omega) ?_ | refine pick_t (by first | rfl | assumption) ?_ | refine pick_f (by first | rfl | assumption) ?_ | refine pick_dt rfl ?_ | refine pick_df (not_not_intro rfl) ?_
    refine cond_dt rfl ?_
    refine callR (by kernel_rfl) (awake_ret hS) ?_
    rintro _ w ⟨rfl, hS⟩
    first | refine pick_dt (by first | assumption | omega) ?_ | refine pick_df (by first | assumption | omega) ?_ | refine pick_t (by first | rfl | assumption) ?_ | refine pick_f (by first | rfl | assumption) ?_ | refine pick_dt rfl ?_ | refine pick_df (not_not_intro rfl) ?_
    unfold m6_11
    exact ⟨rfl, hS.below⟩
  · have he : encV ls = .tuple #[.string ⟨#[]⟩, .int .i64 1] := if_neg hM
    rw [he]
    refine valP_ok (extract_ok _ 0 rfl _) ?_
    refine valP_ok (extract_ok _ 1 rfl _) ?_
    refine tail _ _ _ hS he (if_neg hM).symm fun w L hS => ?_
    unfold m6_8
    refine valP_ok (ne42 _ _ _ _ _) ?_
    unfold m6_12
    refine cond_dt (by omega) ?_
    refine valP_ok (eq9 _ _ _ _ _) ?_
    refine cond_dt rfl ?_
    refine callR (by kernel_rfl) (awake_ret hS) ?_
    rintro _ w ⟨rfl, hS⟩
    first | refine pick_dt (by first | assumption | omega) ?_ | refine pick_df (by first | assumption | omega) ?_ | refine pick_t (by first | rfl | assumption) ?_ | refine pick_f (by first | rfl | assumption) ?_ | refine pick_dt rfl ?_ | refine pick_df (not_not_intro rfl) ?_
    unfold m6_13
    exact ⟨rfl, hS.below⟩
end

end Go.Proofs.Ytcdnkbplplghmaa.M
