/- States, and what is told between them: plain; cleaned as a whole. -/
import Derived.Test.YtnhgdngbdoifnaaV14
namespace Go.Proofs.Ytnhgdngbdoifnaa.M
open Go.Proofs.Ytnhgdngbdoifnaa.F Go.RowKit
set_option linter.unusedVariables false
set_option linter.unusedSimpArgs false
set_option maxRecDepth 100000
set_option maxHeartbeats 2000000
attribute [local irreducible] Res.cells Res.row Res.map Res.any World.cell? World.frozen? Instr.fieldAt Instr.loadAt Instr.storeAt Instr.indexAt Instr.lookup Instr.mapUpdate Instr.box Instr.build Instr.buildSlice Instr.extract Instr.alloc Instr.field Instr.index Instr.sliceAt Instr.makeSlice Instr.makeMap Instr.makeFunc binS Op.unary Sem.run
abbrev I64 (x : Int) : Prop := -9223372036854775808 ≤ x ∧ x ≤ 9223372036854775807
structure Ag where
  count : Int
  sum : Int
  mn : Int
  mx : Int
  h0 : Int
  h1 : Int
  h2 : Int
  h3 : Int
  re : Int
  im : Int
structure Ce where
  key : Int
  start : Int
  a : Ag
structure Sg where
  mark : Int
  late : Int
  bad : Int
  n : Int
  L : List Ce
abbrev agI (a : Ag) : List Int := [a.count, a.sum, a.mn, a.mx, a.h0, a.h1, a.h2, a.h3, a.re, a.im]
def AgOk (a : Ag) : Prop := ∀ x ∈ agI a, I64 x
def CeOk (c : Ce) : Prop := I64 c.key ∧ I64 c.start ∧ AgOk c.a
def absI (x : Int) : Int := if x < 0 then -x else x
/-- may it be? -/
def MayA (a : Ag) : Prop := (1 ≤ a.count ∧ a.count ≤ 1099511627776 ∧ a.mn ≤ a.mx) ∧ ((0 ≤ a.h0 ∧ a.h0 ≤ 1099511627776) ∧ (0 ≤ a.h1 ∧ a.h1 ≤ 1099511627776) ∧ (0 ≤ a.h2 ∧ a.h2 ≤ 1099511627776) ∧ (0 ≤ a.h3 ∧ a.h3 ≤ 1099511627776)) ∧ a.h0 + a.h1 + a.h2 + a.h3 = a.count ∧ (-1099511627776 ≤ a.re ∧ a.re ≤ 1099511627776) ∧ (-1099511627776 ≤ a.im ∧ a.im ≤ 1099511627776) ∧ absI a.re + absI a.im ≤ a.count
instance (a : Ag) : Decidable (MayA a) := by unfold MayA; infer_instance
def encA (a : Ag) : ByteArray := if MayA a then allS (agI a) else ⟨#[]⟩
def AheadC (a b : Ce) : Prop := a.start < b.start ∨ (a.start = b.start ∧ a.key < b.key)
instance (a b : Ce) : Decidable (AheadC a b) := by unfold AheadC; infer_instance
abbrev goneR (c : Ce) : Rc := ⟨c.key, c.start, putS 2⟩
abbrev thereR (c : Ce) : Rc := ⟨c.key, c.start, putS 1 ++ encA c.a⟩
abbrev headR (s : Sg) : Rc := ⟨0, 0, allS [0, s.mark, s.late, s.bad, s.n]⟩
open Classical in
/-- side by side. -/
noncomputable def diffL : List Ce → List Ce → List Rc
  | [], [] => []
  | a :: A, [] => goneR a :: diffL A []
  | [], b :: B => thereR b :: diffL [] B
  | a :: A, b :: B => if AheadC a b then goneR a :: diffL A (b :: B) else if AheadC b a then thereR b :: diffL (a :: A) B else (if a = b then [] else [thereR b]) ++ diffL A B
termination_by A B => A.length + B.length
open Classical in
noncomputable def diffS (s t : Sg) : List Rc := (if ¬ s.mark = t.mark ∨ ¬ s.late = t.late ∨ ¬ s.bad = t.bad ∨ ¬ s.n = t.n then [headR t] else []) ++ diffL s.L t.L
theorem kind_there (c : Ce) : kindS (thereR c).text = 1 := kind_head (n := 1) (r := bytesN (encA c.a)) (by rw [bytesN_append, bytesN_putS]) (by omega)
theorem foldl_app (xs : List Int) : ∀ s : ByteArray, xs.foldl (fun s n => s ++ putS n) s = s ++ allS xs := by
  have e0 : ∀ a : ByteArray, a ++ ⟨#[]⟩ = a := fun a => by apply ByteArray.ext; rw [ByteArray.data_append]; simp
  have ea : ∀ a b c : ByteArray, a ++ b ++ c = a ++ (b ++ c) := fun a b c => by apply ByteArray.ext; simp only [ByteArray.data_append, Array.append_assoc]
  have ez : ∀ a : ByteArray, (⟨#[]⟩ : ByteArray) ++ a = a := fun a => by apply ByteArray.ext; rw [ByteArray.data_append]; simp
  induction xs with
  | nil => intro s; exact (e0 s).symm
  | cons x xs ih =>
    intro s
    unfold allS
    rw [List.foldl_cons, ih, List.foldl_cons, ih, ea, ez]
theorem allS_cons (x : Int) (xs : List Int) : allS (x :: xs) = putS x ++ allS xs := by
  have ez : ∀ a : ByteArray, (⟨#[]⟩ : ByteArray) ++ a = a := fun a => by apply ByteArray.ext; rw [ByteArray.data_append]; simp
  conv => lhs; unfold allS
  rw [List.foldl_cons, foldl_app, ez]
theorem kind_headR (s : Sg) : kindS (headR s).text = 0 := by
  refine kind_head (n := 0) (r := bytesN (allS [s.mark, s.late, s.bad, s.n])) ?_ (by omega)
  show bytesN (allS (0 :: [s.mark, s.late, s.bad, s.n])) = _
  rw [allS_cons, bytesN_append, bytesN_putS]
/-- each is of a window that was, or is. -/
theorem diff_mem (A B : List Ce) : ∀ r ∈ diffL A B, (∃ c ∈ A, r = goneR c) ∨ ∃ c ∈ B, r = thereR c := by
  induction A, B using diffL.induct with
  | case1 => intro r h; rw [diffL] at h; cases h
  | case2 a A ih =>
    intro r h
    rw [diffL] at h
    rcases List.mem_cons.1 h with rfl | h
    · exact .inl ⟨a, .head _, rfl⟩
    · exact (ih r h).imp (fun ⟨c, hc, e⟩ => ⟨c, .tail _ hc, e⟩) id
  | case3 b B ih =>
    intro r h
    rw [diffL] at h
    rcases List.mem_cons.1 h with rfl | h
    · exact .inr ⟨b, .head _, rfl⟩
    · exact (ih r h).imp id (fun ⟨c, hc, e⟩ => ⟨c, .tail _ hc, e⟩)
  | case4 a A b B h1 ih =>
    intro r h
    rw [diffL, if_pos h1] at h
    rcases List.mem_cons.1 h with rfl | h
    · exact .inl ⟨a, .head _, rfl⟩
    · exact (ih r h).imp (fun ⟨c, hc, e⟩ => ⟨c, .tail _ hc, e⟩) id
  | case5 a A b B h1 h2 ih =>
    intro r h
    rw [diffL, if_neg h1, if_pos h2] at h
    rcases List.mem_cons.1 h with rfl | h
    · exact .inr ⟨b, .head _, rfl⟩
    · exact (ih r h).imp id (fun ⟨c, hc, e⟩ => ⟨c, .tail _ hc, e⟩)
  | case6 a A b B h1 h2 ih =>
    intro r h
    rw [diffL, if_neg h1, if_neg h2] at h
    rcases List.mem_append.1 h with h | h
    · split at h
      · cases h
      · obtain rfl := List.mem_singleton.1 h
        exact .inr ⟨b, .head _, rfl⟩
    · exact (ih r h).imp (fun ⟨c, hc, e⟩ => ⟨c, .tail _ hc, e⟩) (fun ⟨c, hc, e⟩ => ⟨c, .tail _ hc, e⟩)
theorem not_ahead {a b : Ce} (h1 : ¬ AheadC a b) (h2 : ¬ AheadC b a) : b.key = a.key ∧ b.start = a.start := by
  unfold AheadC at h1 h2
  omega
/-- who was, is, or is told to be gone. -/
theorem diff_old (A B : List Ce) : ∀ c ∈ A, (∃ b ∈ B, b.key = c.key ∧ b.start = c.start) ∨ goneR c ∈ diffL A B := by
  induction A, B using diffL.induct with
  | case1 => intro c h; cases h
  | case2 a A ih =>
    intro c h
    rw [diffL]
    rcases List.mem_cons.1 h with rfl | h
    · exact .inr (.head _)
    · exact (ih c h).imp id (.tail _)
  | case3 b B ih => intro c h; cases h
  | case4 a A b B h1 ih =>
    intro c h
    rw [diffL, if_pos h1]
    rcases List.mem_cons.1 h with rfl | h
    · exact .inr (.head _)
    · exact (ih c h).imp id (.tail _)
  | case5 a A b B h1 h2 ih =>
    intro c h
    rw [diffL, if_neg h1, if_pos h2]
    exact (ih c h).imp (fun ⟨x, hx, e⟩ => ⟨x, .tail _ hx, e⟩) (.tail _)
  | case6 a A b B h1 h2 ih =>
    intro c h
    rw [diffL, if_neg h1, if_neg h2]
    rcases List.mem_cons.1 h with rfl | h
    · exact .inl ⟨b, .head _, not_ahead h1 h2⟩
    · exact (ih c h).imp (fun ⟨x, hx, e⟩ => ⟨x, .tail _ hx, e⟩) (List.mem_append_right _)
/-- what comes last about a window that is told to be there is of one that is. -/
def Lives (W : List Ce) : List Rc → Prop
  | [] => True
  | r :: t => (0 ≤ kindS r.text ∧ (r.text = putS 2 ∨ kindS r.text = 0 ∨ (∃ r' ∈ t, SameR r r') ∨ ∃ c ∈ W, c.key = r.key ∧ c.start = r.time)) ∧ Lives W t
theorem lives_mem {W : List Ce} : ∀ {D : List Rc}, (∀ r ∈ D, 0 ≤ kindS r.text ∧ (r.text = putS 2 ∨ kindS r.text = 0 ∨ ∃ c ∈ W, c.key = r.key ∧ c.start = r.time)) → Lives W D
  | [], _ => trivial
  | r :: t, h => ⟨⟨(h r (.head _)).1, (h r (.head _)).2.imp id (.imp id .inr)⟩, lives_mem fun x hx => h x (.tail _ hx)⟩
theorem lives_more {W W' : List Ce} {D : List Rc} (hD : Lives W' D) (ho : ∀ c ∈ W, (∃ b ∈ W', b.key = c.key ∧ b.start = c.start) ∨ ∃ r ∈ D, 0 < kindS r.text ∧ r.key = c.key ∧ r.time = c.start) : ∀ {rs : List Rc}, Lives W rs → Lives W' (rs ++ D)
  | [], _ => hD
  | r :: t, h => by
    refine ⟨⟨h.1.1, ?_⟩, lives_more hD ho h.2⟩
    rcases h.1.2 with h1 | h1 | ⟨r', h1, h2⟩ | ⟨c, hc, h1, h2⟩
    · exact .inl h1
    · exact .inr (.inl h1)
    · exact .inr (.inr (.inl ⟨r', List.mem_append_left _ h1, h2⟩))
    · by_cases h0 : kindS r.text = 0
      · exact .inr (.inl h0)
      · have h9 := h.1.1
        rcases ho c hc with ⟨b, hb, e1, e2⟩ | ⟨r', hr, e0, e1, e2⟩
        · exact .inr (.inr (.inr ⟨b, hb, e1.trans h1, e2.trans h2⟩))
        · refine .inr (.inr (.inl ⟨r', List.mem_append_right _ hr, h9, by omega, ?_⟩))
          rw [if_neg (by omega)]
          exact ⟨by rw [e1, h1], by rw [e2, h2]⟩
theorem diffS_lives (s t : Sg) : Lives t.L (diffS s t) := by
  refine lives_mem fun r hr => ?_
  unfold diffS at hr
  rcases List.mem_append.1 hr with h | h
  · split at h
    · obtain rfl := List.mem_singleton.1 h
      have := kind_headR t
      exact ⟨by omega, .inr (.inl this)⟩
    · cases h
  · rcases diff_mem _ _ r h with ⟨c, hc, rfl⟩ | ⟨c, hc, rfl⟩
    · have := kind_put2
      exact ⟨by show 0 ≤ kindS (putS 2); omega, .inl rfl⟩
    · have := kind_there c
      exact ⟨by omega, .inr (.inr ⟨c, hc, rfl, rfl⟩)⟩
theorem diffS_step {s t : Sg} {rs : List Rc} (h : Lives s.L rs) : Lives t.L (rs ++ diffS s t) := by
  refine lives_more (diffS_lives s t) (fun c hc => ?_) h
  refine (diff_old s.L t.L c hc).imp id fun h1 => ⟨_, List.mem_append_right _ h1, ?_, rfl, rfl⟩
  have := kind_put2
  show 0 < kindS (putS 2)
  omega
theorem nodup_le {α : Type} : ∀ {l m : List α}, l.Pairwise (fun a b => a ≠ b) → (∀ x ∈ l, x ∈ m) → l.length ≤ m.length
  | [], m, _, _ => Nat.zero_le _
  | a :: l, m, hp, hs => by
    classical
    obtain ⟨h1, h2⟩ := List.pairwise_cons.1 hp
    have hm := hs a (.head _)
    have ih := nodup_le (l := l) (m := m.erase a) h2 (fun x hx => (List.mem_erase_of_ne (h1 x hx).symm).2 (hs x (.tail _ hx)))
    rw [List.length_erase_of_mem hm] at ih
    have := List.length_pos_of_mem hm
    rw [List.length_cons]
    omega
theorem cl_apart {u : Int} : ∀ {l : List Gt}, (∀ g ∈ l, g.off < u) → (cl u l).Pairwise (fun a b => ¬ SameR a.r b.r)
  | [], _ => .nil
  | g :: t, h => by
    have ih := cl_apart (l := t) fun x hx => h x (.tail _ hx)
    unfold cl
    split
    · exact ih
    · rename_i hn
      refine List.pairwise_cons.2 ⟨fun b hb hs => hn ⟨h g (.head _), .inr ⟨b, cl_sub _ _ b hb, h b (.tail _ (cl_sub _ _ b hb)), hs⟩⟩, ih⟩
theorem cl_alive {u : Int} {W : List Ce} : ∀ {l : List Gt}, (∀ g ∈ l, g.off < u) → Lives W (l.map (·.r)) → ∀ g ∈ cl u l, 0 ≤ kindS g.r.text ∧ (kindS g.r.text = 0 ∨ ∃ c ∈ W, c.key = g.r.key ∧ c.start = g.r.time)
  | [], _, _, g, h => by cases h
  | a :: t, h, hl, g, hg => by
    have ih := cl_alive (l := t) (fun x hx => h x (.tail _ hx)) hl.2 g
    unfold cl at hg
    split at hg
    · exact ih hg
    · rename_i hn
      rcases List.mem_cons.1 hg with rfl | hg
      · refine ⟨hl.1.1, ?_⟩
        rcases hl.1.2 with h1 | h1 | ⟨r', h1, h2⟩ | h1
        · exact absurd ⟨h g (.head _), .inl h1⟩ hn
        · exact .inl h1
        · obtain ⟨b, hb, rfl⟩ := List.mem_map.1 h1
          exact absurd ⟨h g (.head _), .inr ⟨b, hb, h b (.tail _ hb), h2⟩⟩ hn
        · exact .inr h1
      · exact ih hg
/-- changes that are cleaned as a whole are one for each window that is open, and one for the counts, at the most. -/
theorem cl_small {u : Int} {W : List Ce} {l : List Gt} (h : ∀ g ∈ l, g.off < u) (hl : Lives W (l.map (·.r))) : (cl u l).length ≤ W.length + 1 := by
  classical
  have ha := cl_alive h hl
  have hp := cl_apart h
  have hf : ((cl u l).map (fun g => if kindS g.r.text = 0 then none else some (g.r.key, g.r.time))).length ≤ (none :: W.map (fun c => some (c.key, c.start))).length := by
    refine nodup_le ?_ fun x hx => ?_
    · rw [List.pairwise_map]
      refine List.Pairwise.imp_of_mem (fun {a b} hma hmb hn he => hn ?_) hp
      have h1 := (ha a hma).1
      have h2 := (ha b hmb).1
      refine ⟨h1, h2, ?_⟩
      by_cases ea : kindS a.r.text = 0
      · rw [if_pos ea] at he
        by_cases eb : kindS b.r.text = 0
        · rw [if_pos (.inl ea)]; omega
        · rw [if_neg eb] at he; cases he
      · rw [if_neg ea] at he
        by_cases eb : kindS b.r.text = 0
        · rw [if_pos eb] at he; cases he
        · rw [if_neg eb] at he
          rw [if_neg (by omega)]
          have := Prod.mk.inj (Option.some.inj he)
          exact this
    · obtain ⟨g, hg, rfl⟩ := List.mem_map.1 hx
      split
      · exact .head _
      · rename_i h0
        rcases (ha g hg).2 with h1 | ⟨c, hc, h1, h2⟩
        · exact absurd h1 h0
        · exact .tail _ (List.mem_map.2 ⟨c, hc, by rw [h1, h2]⟩)
  simpa using hf
/-- offsets one behind the other. -/
def offs : Int → List Rc → List Gt
  | _, [] => []
  | i, r :: t => ⟨i, r⟩ :: offs (i + 1) t
theorem offs_len : ∀ (i : Int) (rs : List Rc), (offs i rs).length = rs.length
  | _, [] => rfl
  | i, r :: t => by rw [offs, List.length_cons, List.length_cons, offs_len]
theorem offs_r : ∀ (i : Int) (rs : List Rc), (offs i rs).map (·.r) = rs
  | _, [] => rfl
  | i, r :: t => by rw [offs, List.map_cons, offs_r]
theorem offs_mem : ∀ {i : Int} {rs : List Rc} {g : Gt}, g ∈ offs i rs → i ≤ g.off ∧ g.off < i + rs.length
  | i, r :: t, g, h => by
    rw [offs] at h
    rw [List.length_cons]
    rcases List.mem_cons.1 h with rfl | h
    · simp only; omega
    · have := offs_mem h
      omega
theorem offs_pw : ∀ (i : Int) (rs : List Rc), (offs i rs).Pairwise (fun a b => a.off ≤ b.off)
  | _, [] => .nil
  | i, r :: t => by
    rw [offs]
    refine List.pairwise_cons.2 ⟨fun b hb => ?_, offs_pw _ _⟩
    have := offs_mem hb
    show i ≤ b.off
    omega
theorem offs_snoc : ∀ (i : Int) (rs : List Rc) (r : Rc), offs i (rs ++ [r]) = offs i rs ++ [⟨i + rs.length, r⟩]
  | i, [], r => by simp [offs]
  | i, a :: t, r => by
    rw [List.cons_append, offs, offs_snoc, offs, List.cons_append, List.length_cons]
    have : i + 1 + (t.length : Int) = i + ((t.length + 1 : Nat) : Int) := by omega
    rw [this]

end Go.Proofs.Ytnhgdngbdoifnaa.M
