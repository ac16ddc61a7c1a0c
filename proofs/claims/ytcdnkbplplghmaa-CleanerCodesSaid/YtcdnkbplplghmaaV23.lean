/- Changes: may they be; their bytes, plain. -/
import Derived.Test.YtcdnkbplplghmaaV22
import Derived.Test.YtcdnkbplplghmaaFwW
import Derived.Test.YtcdnkbplplghmaaFwB
import Derived.Test.YtcdnkbplplghmaaMcod0
namespace Go.Proofs.Ytcdnkbplplghmaa.M
open Go.Proofs.Ytcdnkbplplghmaa.F Go.RowKit
set_option linter.unusedVariables false
set_option linter.unusedSimpArgs false
set_option maxRecDepth 100000
set_option maxHeartbeats 2000000
attribute [local irreducible] Res.cells Res.row Res.map Res.any World.cell? World.frozen? Instr.fieldAt Instr.loadAt Instr.storeAt Instr.indexAt Instr.lookup Instr.mapUpdate Instr.box Instr.build Instr.buildSlice Instr.extract Instr.alloc Instr.field Instr.index Instr.sliceAt Instr.makeSlice Instr.makeMap Instr.makeFunc binS Op.unary Sem.run
def MayG (g : Gt) : Prop := InM g.off ∧ MayR g.r
instance (g : Gt) : Decidable (MayG g) := by unfold MayG; infer_instance
def MayL (l : List Gt) : Prop := (∀ g ∈ l, MayG g) ∧ l.length ≤ 4096
instance (l : List Gt) : Decidable (MayL l) := by unfold MayL; infer_instance
/-- what a record's fields are at the most. -/
def GtS (g : Gt) : Prop := GtOk g ∧ g.r.text.size ≤ 1000
theorem add_empty (a : ByteArray) : a ++ ⟨#[]⟩ = a := bytesN_inj (by rw [bytesN_append]; exact List.append_nil _)
theorem empty_add (a : ByteArray) : ⟨#[]⟩ ++ a = a := bytesN_inj (by rw [bytesN_append]; rfl)
theorem add_assoc' (a b c : ByteArray) : a ++ b ++ c = a ++ (b ++ c) := bytesN_inj (by simp only [bytesN_append, List.append_assoc])
theorem add_take (a b : ByteArray) : (a ++ b).extract 0 a.size = a := bytesN_inj (by rw [bytesN_take, bytesN_append, ← bytesN_length, List.take_left])
theorem add_drop (a b : ByteArray) : (a ++ b).extract a.size (a ++ b).size = b := bytesN_inj (by rw [bytesN_drop, bytesN_append, ← bytesN_length, List.drop_left])
theorem textS_put {x q : ByteArray} (hx : x.size ≤ 1000000) : textS (putTextS x ++ q) 512 = if x.size ≤ 512 then some (x, q) else none := by
  unfold textS putTextS
  rw [add_assoc', takeS_put (by omega)]
  have hz : (x ++ q).size = x.size + q.size := ByteArray.size_append
  simp only
  by_cases h : x.size ≤ 512
  · rw [if_pos (by omega), if_pos h, Int.toNat_natCast, add_take, add_drop]
  · rw [if_neg (by omega), if_neg h]
theorem takeRec_put {r : Rc} {q : ByteArray} (hk : -9223372036854775808 ≤ r.key ∧ r.key ≤ 9223372036854775807) (ht : -9223372036854775808 ≤ r.time ∧ r.time ≤ 9223372036854775807) (hs : r.text.size ≤ 1000000) : takeRec (recS r ++ q) = if MayR r then some (r, q) else none := by
  unfold takeRec recS
  rw [add_assoc', add_assoc', takeS_put hk]
  simp only
  rw [takeS_put ht]
  simp only
  rw [textS_put hs]
  by_cases h : r.text.size ≤ 512
  · rw [if_pos h]
  · rw [if_neg h]
    simp only
    rw [if_neg (fun h1 => h h1.2.2.2)]
theorem recV_put {r : Rc} (hk : -9223372036854775808 ≤ r.key ∧ r.key ≤ 9223372036854775807) (ht : -9223372036854775808 ≤ r.time ∧ r.time ≤ 9223372036854775807) (hs : r.text.size ≤ 1000000) : recV (recS r) = if MayR r then .tuple #[rv r, .string ⟨#[]⟩, .int .i64 0] else noRec := by
  have := takeRec_put (q := ⟨#[]⟩) hk ht hs
  rw [add_empty] at this
  unfold recV
  rw [this]
  by_cases h : MayR r
  · rw [if_pos h, if_pos h]
  · rw [if_neg h, if_neg h]
/-- each change's bytes. -/
def bodyL : List Gt → ByteArray
  | [] => ⟨#[]⟩
  | g :: l => (putS g.off ++ recS g.r) ++ bodyL l
theorem bodyL_take {l : List Gt} {i : Nat} (h : i < l.length) : bodyL (l.take (i + 1)) = bodyL (l.take i) ++ (putS l[i].off ++ recS l[i].r) := by
  induction l generalizing i with
  | nil => simp at h
  | cons g l ih =>
    cases i with
    | zero =>
      simp only [List.take_succ_cons, List.take_zero, bodyL, List.getElem_cons_zero]
      rw [add_empty, empty_add]
    | succ i =>
      simp only [List.take_succ_cons, List.getElem_cons_succ, bodyL]
      rw [ih (by simpa using h), add_assoc' (putS g.off ++ recS g.r)]
def encL (l : List Gt) : ByteArray := putS l.length ++ bodyL l
theorem recS_size {r : Rc} (h : MayR r) : (recS r).size ≤ 550 := by
  have h1 := putS_size (n := r.key) (by unfold MayR InM at h; omega)
  have h2 := putS_size (n := r.time) (by unfold MayR InM at h; omega)
  have h3 := putS_size (n := (r.text.size : Int)) (by unfold MayR at h; omega)
  unfold MayR at h
  unfold recS putTextS
  simp only [ByteArray.size_append]
  omega
theorem bodyL_size {l : List Gt} (h : ∀ g ∈ l, MayG g) : (bodyL l).size ≤ 600 * l.length := by
  induction l with
  | nil => exact Nat.le_refl _
  | cons g l ih =>
    have h1 := ih (fun g hg => h g (.tail _ hg))
    have hg := h g (.head _)
    have h2 := recS_size hg.2
    have h3 := putS_size (n := g.off) (by unfold MayG InM at hg; omega)
    simp only [bodyL, ByteArray.size_append, List.length_cons]
    omega
theorem encL_size {l : List Gt} (h : MayL l) : (encL l).size ≤ 3000000 := by
  have h1 := bodyL_size h.1
  have h2 := putS_size (n := (l.length : Int)) (by have := h.2; omega)
  have h3 := h.2
  unfold encL
  rw [ByteArray.size_append]
  omega
/-- so many changes. -/
def takeGs : Nat → ByteArray → Option (List Gt × ByteArray)
  | 0, s => some ([], s)
  | n + 1, s => match takeS s with
    | none => none
    | some (off, a) => match takeRec a with
      | none => none
      | some (r, b) => (takeGs n b).map fun p => (⟨off, r⟩ :: p.1, p.2)
theorem takeGs_succ (n : Nat) (s : ByteArray) : takeGs (n + 1) s = match takeS s with
    | none => none
    | some (off, a) => match takeRec a with
      | none => none
      | some (r, b) => (takeGs n b).map fun p => (⟨off, r⟩ :: p.1, p.2) := rfl
def decS (s : ByteArray) : Option (List Gt) := match unsealS s with
  | none => none
  | some t => match takeS t with
    | none => none
    | some (n, r) => if 0 ≤ n ∧ n ≤ 4096 then (match takeGs n.toNat r with
      | none => none
      | some (l, q) => if q = ⟨#[]⟩ ∧ MayL l then some l else none) else none
theorem takeGs_body {l : List Gt} (h : ∀ g ∈ l, MayG g) (q : ByteArray) : takeGs l.length (bodyL l ++ q) = some (l, q) := by
  induction l with
  | nil => simp only [bodyL, List.length_nil]; rw [empty_add]; rfl
  | cons g l ih =>
    have hg := h g (.head _)
    have e1 : -9223372036854775808 ≤ g.off ∧ g.off ≤ 9223372036854775807 := by unfold MayG InM at hg; omega
    have e2 : -9223372036854775808 ≤ g.r.key ∧ g.r.key ≤ 9223372036854775807 := by unfold MayG MayR InM at hg; omega
    have e3 : -9223372036854775808 ≤ g.r.time ∧ g.r.time ≤ 9223372036854775807 := by unfold MayG MayR InM at hg; omega
    have e4 : g.r.text.size ≤ 1000000 := by unfold MayG MayR at hg; omega
    rw [List.length_cons, takeGs_succ, bodyL, add_assoc', add_assoc', takeS_put e1]
    simp only
    rw [takeRec_put e2 e3 e4, if_pos hg.2]
    simp only
    rw [ih (fun g hg => h g (.tail _ hg))]
    rfl
theorem dec_enc {l : List Gt} (h : MayL l) : decS (sealS (encL l)) = some l := by
  unfold decS
  rw [unseal_seal]
  simp only
  unfold encL
  have hl := h.2
  rw [takeS_put (by omega)]
  simp only
  have := takeGs_body h.1 ⟨#[]⟩
  rw [add_empty] at this
  rw [if_pos (by omega), Int.toNat_natCast, this]
  simp only
  rw [if_pos ⟨trivial, h⟩]
theorem takeGs_ok {n : Nat} {s q : ByteArray} {l : List Gt} (h : takeGs n s = some (l, q)) : l.length = n ∧ ∀ g ∈ l, GtS g := by
  induction n generalizing s l q with
  | zero =>
    obtain ⟨rfl, rfl⟩ := Prod.mk.inj (Option.some.inj h)
    exact ⟨rfl, by simp⟩
  | succ n ih =>
    rw [takeGs_succ] at h
    cases h1 : takeS s with
    | none => rw [h1] at h; cases h
    | some p =>
      obtain ⟨off, a⟩ := p
      rw [h1] at h
      simp only at h
      cases h2 : takeRec a with
      | none => rw [h2] at h; cases h
      | some p =>
        obtain ⟨r, b⟩ := p
        rw [h2] at h
        simp only at h
        cases h3 : takeGs n b with
        | none => rw [h3] at h; cases h
        | some p =>
          obtain ⟨l', q'⟩ := p
          rw [h3] at h
          obtain ⟨rfl, rfl⟩ := Prod.mk.inj (Option.some.inj h)
          obtain ⟨i1, i2⟩ := ih h3
          refine ⟨by simp [i1], fun g hg => ?_⟩
          rcases List.mem_cons.1 hg with rfl | hg
          · have hm : MayR r := by
              unfold takeRec at h2
              split at h2
              · cases h2
              · split at h2
                · cases h2
                · split at h2
                  · cases h2
                  · split at h2
                    · obtain ⟨rfl, _⟩ := Prod.mk.inj (Option.some.inj h2)
                      assumption
                    · cases h2
            unfold MayR InM at hm
            exact ⟨⟨by simp only; omega, by simp only; omega⟩, by simp only; omega⟩
          · exact i2 g hg

end Go.Proofs.Ytcdnkbplplghmaa.M
