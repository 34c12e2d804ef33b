-- A text by hand (wip/locks).
import Derived.RangeFuncNested
import Derived.RangeFuncBound
import Derived.RangeFuncCalls
import Derived.RangeFuncLeaves
import Derived.RangeFuncBox
import Derived.Shelf.Abstract
import Derived.Shelf.RegionOpen
import Derived.OwnWalkIn
import Derived.TacticsInMore
import Derived.LoopNIn
import Derived.LoopIn
import Derived.Test.YtdhabfjfpbdjfaaPr0
import Derived.Test.YtdhabfjfpbdjfaaLk1
namespace Go.Proofs.Ytdhabfjfpbdjfaa.Pr
open Go.RowKit Go.Shelf Go.Proofs.YtdhabfjfpbdjfaaW.PrintWords Go.Proofs.YtdhabfjfpbdjfaaW.PrintLast Go.Proofs.YtdhabfjfpbdjfaaW.PrintMore
set_option linter.unusedVariables false
set_option linter.unusedSimpArgs false

/-- A key's lock: its name, its entry's birth, its block, its two rows as they lie, and what they hold. -/
structure LRec where
  key : ByteArray
  born : Nat
  g : Nat
  vh : Value
  vw : Value
  h : List S63
  w : List S63
def LRec.bs (r : LRec) (k : Nat) : Prop := k = r.g ∨ r.vh.ownBlock = some k ∨ r.vw.ownBlock = some k
def RecAt (W : World) (base : Nat) (r : LRec) : Prop :=
  W.heap[r.g]? = some (.cells #[r.vh, r.vw] 60 (0, 0)) ∧ base ≤ r.g ∧ Kd.R k63 63 W base (fun _ => True) r.vh r.h ∧ Kd.Q k63 63 W base (fun _ => True) r.vw r.w ∧ ∀ k, r.vh.ownBlock = some k → r.vw.ownBlock ≠ some k
theorem RecAt.kept {W W' : World} {base : Nat} {r : LRec} (h : RecAt W base r) {X : Nat → Prop} (hk : Kept W W' X) (hn : ∀ k, r.bs k → ¬ X k) : RecAt W' base r := by
  obtain ⟨h1, h2, h3, h4, h5⟩ := h
  refine ⟨blk_kept h1 hk (hn _ (.inl rfl)), h2, Kd.R_mono (Kd.R_kept (Kd.R_tight2 rfl h3) hk (fun k e => hn k (.inr (.inl e.1.symm)))) (fun _ _ => trivial), Kd.Q_mono (Kd.Q_kept (Kd.Q_tight rfl h4) hk (fun k e => hn k (.inr (.inr e.symm)))) (fun _ _ => trivial), h5⟩
theorem RecAt.below {W W' : World} {base : Nat} {r : LRec} (h : RecAt W base r) (hb : Below W.heap.size W W') : RecAt W' base r := h.kept (Kept.of_below hb (fun _ => False)) (fun _ _ h => h)
/-- A lock's blocks: cells of two types. -/
theorem RecAt.typed {W : World} {base : Nat} {r : LRec} (h : RecAt W base r) {k : Nat} (hk : r.bs k) : base ≤ k ∧ ∃ cells q, (q = 60 ∨ q = 63) ∧ W.heap[k]? = some (.cells cells q (0, 0)) := by
  obtain ⟨h1, h2, h3, h4, h5⟩ := h
  rcases hk with rfl | hk | hk
  · exact ⟨h2, _, _, .inl rfl, h1⟩
  · obtain ⟨c, hc⟩ := Kd.R_typed h3 k hk
    exact ⟨Kd.R_base h3 k hk, c, _, .inr rfl, hc⟩
  · obtain ⟨c, hc⟩ := Kd.Q_typed h4 k hk
    exact ⟨Kd.Q_base h4 k hk, c, _, .inr rfl, hc⟩
def entOf (r : LRec) : MapEntry := { key := .string r.key, val := .pointer (some ⟨r.g, 0, none⟩), born := r.born }
def Apart (r s : LRec) : Prop := r.key ≠ s.key ∧ ∀ k, r.bs k → ¬ s.bs k
/-- What is looked at beside the locks: blocks that are no lock's, all older than lim. -/
structure ObsT where
  seen : Nat → Obj → Prop
  lim : Nat
abbrev Obs : Type := Inhabited ObsT
abbrev Obs.none : Obs := ⟨⟨fun _ _ => False, 0⟩⟩
def Obs.seen [o : Obs] : Nat → Obj → Prop := o.default.seen
def Obs.lim [o : Obs] : Nat := o.default.lim
def OffT (o : Obj) : Prop := ∃ cs t fr, o = .cells cs t fr ∧ t ≠ 60 ∧ t ≠ 63
def Seen [Obs] (W : World) : Prop := (∀ k o, Obs.seen k o → k < Obs.lim ∧ W.heap[k]? = some o ∧ OffT o) ∧ Obs.lim ≤ W.heap.size
theorem Seen.kept [Obs] {W W' : World} (h : Seen W) {X : Nat → Prop} (hk : Kept W W' X) (hn : ∀ k o, Obs.seen k o → W.heap[k]? = some o → OffT o → ¬ X k) : Seen W' :=
  ⟨fun k o ho => ⟨(h.1 k o ho).1, (hk.2 k (blk_lt (h.1 k o ho).2.1) (hn k o ho (h.1 k o ho).2.1 (h.1 k o ho).2.2)).trans (h.1 k o ho).2.1, (h.1 k o ho).2.2⟩, Nat.le_trans h.2 hk.1⟩
theorem offT_rec {W : World} {base : Nat} {r : LRec} (h : RecAt W base r) {k : Nat} {o : Obj} (ho : W.heap[k]? = some o) (hf : OffT o) : ¬ r.bs k := fun hk => by
  obtain ⟨_, c, q, hq, hc⟩ := h.typed hk
  obtain ⟨cs, t, fr, rfl, h1, h2⟩ := hf
  rw [hc] at ho
  injection ho with ho
  injection ho with _ ho _
  rcases hq with rfl | rfl
  · exact h1 ho.symm
  · exact h2 ho.symm
theorem offT_map {W : World} {B k clk : Nat} {es : Array MapEntry} {o : Obj} (hm : W.heap[B]? = some (.map es clk)) (ho : W.heap[k]? = some o) (hf : OffT o) : ¬ k = B := fun e => by
  subst e
  obtain ⟨cs, t, fr, rfl, h1, h2⟩ := hf
  rw [hm] at ho
  injection ho with ho
  cases ho
def LockAt [Obs] (W : World) (base gl B clk : Nat) (S : List LRec) : Prop :=
  W.heap[gl]? = some (.cells #[.map (some B)] 51 (0, 0)) ∧ base ≤ gl ∧ W.heap[B]? = some (.map (S.map entOf).toArray clk) ∧ base ≤ B ∧ (∀ r ∈ S, RecAt W base r) ∧ S.Pairwise Apart ∧ Seen W
theorem heap_kept {W W' : World} {X : Nat → Prop} (hk : Kept W W' X) {g : Nat} {o : Obj} (h : W.heap[g]? = some o) (hn : ¬ X g) : W'.heap[g]? = some o := (hk.2 g (blk_lt h) hn).trans h
theorem LockAt.kept [Obs] {W W' : World} {base gl B clk : Nat} {S : List LRec} (h : LockAt W base gl B clk S) {X : Nat → Prop} (hk : Kept W W' X) (hg : ¬ X gl) (hB : ¬ X B) (hn : ∀ r ∈ S, ∀ k, r.bs k → ¬ X k) (hO : ∀ k o, Obs.seen k o → W.heap[k]? = some o → OffT o → ¬ X k) : LockAt W' base gl B clk S := by
  obtain ⟨h1, h2, h3, h4, h5, h6, h7⟩ := h
  exact ⟨heap_kept hk h1 hg, h2, heap_kept hk h3 hB, h4, fun r hr => (h5 r hr).kept hk (hn r hr), h6, h7.kept hk hO⟩
theorem LockAt.below [Obs] {W W' : World} {base gl B clk : Nat} {S : List LRec} (h : LockAt W base gl B clk S) (hb : Below W.heap.size W W') : LockAt W' base gl B clk S :=
  h.kept (Kept.of_below hb (fun _ => False)) (fun h => h) (fun h => h) (fun _ _ _ _ h => h) (fun _ _ _ _ _ h => h)
theorem LockAt.not_gl [Obs] {W : World} {base gl B clk : Nat} {S : List LRec} (h : LockAt W base gl B clk S) {r : LRec} (hr : r ∈ S) : ¬ r.bs gl ∧ ¬ r.bs B := by
  obtain ⟨h1, h2, h3, h4, h5, h6, h7⟩ := h
  constructor
  · intro hk
    obtain ⟨_, c, q, hq, hc⟩ := (h5 r hr).typed hk
    rw [h1] at hc
    injection hc with hc
    injection hc with _ hc _
    rcases hq with rfl | rfl <;> exact absurd hc (by decide)
  · intro hk
    obtain ⟨_, c, q, hq, hc⟩ := (h5 r hr).typed hk
    rw [h3] at hc
    injection hc with hc
    cases hc
theorem apart_symm {r s : LRec} (h : Apart r s) : Apart s r := ⟨fun e => h.1 e.symm, fun k hk hr => h.2 k hr hk⟩
/-- A lock's rows have turned; all else lies as it lay. -/
theorem LockAt.upd [Obs] {W W' : World} {base gl B clk : Nat} {S1 S2 : List LRec} {r r' : LRec} (h : LockAt W base gl B clk (S1 ++ r :: S2)) (hk : Kept W W' r.bs) (hr : RecAt W' base r') (e1 : r'.key = r.key) (e2 : r'.g = r.g) (e3 : r'.born = r.born) (hb : ∀ k, r'.bs k → r.bs k ∨ W.heap.size ≤ k) :
    LockAt W' base gl B clk (S1 ++ r' :: S2) := by
  have hng := h.not_gl (r := r) (by simp)
  obtain ⟨h1, h2, h3, h4, h5, h6, h7⟩ := h
  have hent : (S1 ++ r' :: S2).map entOf = (S1 ++ r :: S2).map entOf := by
    rw [List.map_append, List.map_append, List.map_cons, List.map_cons]
    congr 2
    unfold entOf; rw [e1, e2, e3]
  have hap : ∀ s, s ∈ S1 ∨ s ∈ S2 → RecAt W base s → Apart r s → Apart r' s := fun s _ hs ha => ⟨by rw [e1]; exact ha.1, fun k hk hsk => by
    rcases hb k hk with h | h
    · exact ha.2 k h hsk
    · obtain ⟨_, c, q, _, hc⟩ := hs.typed hsk
      have := blk_lt hc
      omega⟩
  rw [List.pairwise_append, List.pairwise_cons] at h6
  obtain ⟨p1, ⟨p2, p3⟩, p4⟩ := h6
  refine ⟨heap_kept hk h1 hng.1, h2, by rw [hent]; exact heap_kept hk h3 hng.2, h4, fun s hs => ?_, ?_, h7.kept hk (fun k o _ h8 h9 => offT_rec (h5 r (by simp)) h8 h9)⟩
  · rw [List.mem_append, List.mem_cons] at hs
    rcases hs with hs | rfl | hs
    · exact (h5 s (by simp [hs])).kept hk (fun k h1 h2 => (p4 s hs r (by simp)).2 k h1 h2)
    · exact hr
    · exact (h5 s (by simp [hs])).kept hk (fun k h1 h2 => (p2 s hs).2 k h2 h1)
  · rw [List.pairwise_append, List.pairwise_cons]
    refine ⟨p1, ⟨fun s hs => hap s (.inr hs) (h5 s (by simp [hs])) (p2 s hs), p3⟩, fun s hs t ht => ?_⟩
    rw [List.mem_cons] at ht
    rcases ht with rfl | ht
    · exact apart_symm (hap s (.inl hs) (h5 s (by simp [hs])) (apart_symm (p4 s hs r (by simp))))
    · exact p4 s hs t (by simp [ht])
/-- A new lock, behind all others. -/
theorem LockAt.add [Obs] {W W' : World} {base gl B clk : Nat} {S : List LRec} {r : LRec} (h : LockAt W base gl B clk S) (hk : Kept W W' (fun k => k = B)) (hm : W'.heap[B]? = some (.map ((S ++ [r]).map entOf).toArray (clk + 1))) (hr : RecAt W' base r) (hn : ∀ s ∈ S, s.key ≠ r.key) (hb : ∀ s ∈ S, ∀ k, s.bs k → ¬ r.bs k) :
    LockAt W' base gl B (clk + 1) (S ++ [r]) := by
  have hgB : gl ≠ B := fun e => by
    obtain ⟨h1, _, h3, _⟩ := h
    rw [e, h3] at h1
    injection h1 with h1
    cases h1
  have hnB : ∀ s ∈ S, ¬ s.bs B := fun s hs => (h.not_gl hs).2
  obtain ⟨h1, h2, h3, h4, h5, h6, h7⟩ := h
  refine ⟨heap_kept hk h1 hgB, h2, hm, h4, fun s hs => ?_, ?_, h7.kept hk (fun k o _ h8 h9 => offT_map h3 h8 h9)⟩
  · rw [List.mem_append, List.mem_singleton] at hs
    rcases hs with hs | rfl
    · exact (h5 s hs).kept hk (fun k hk1 hk2 => hnB s hs (by rw [← hk2]; exact hk1))
    · exact hr
  · rw [List.pairwise_append]
    refine ⟨h6, List.pairwise_singleton _ _, fun s hs t ht => ?_⟩
    rw [List.mem_singleton] at ht
    subst ht
    exact ⟨hn s hs, hb s hs⟩
/-- A lock is taken out. -/
theorem LockAt.del [Obs] {W W' : World} {base gl B clk : Nat} {S1 S2 : List LRec} {r : LRec} (h : LockAt W base gl B clk (S1 ++ r :: S2)) (hk : Kept W W' (fun k => k = B)) (hm : W'.heap[B]? = some (.map ((S1 ++ S2).map entOf).toArray clk)) : LockAt W' base gl B clk (S1 ++ S2) := by
  have hgB : gl ≠ B := fun e => by
    obtain ⟨h1, _, h3, _⟩ := h
    rw [e, h3] at h1
    injection h1 with h1
    cases h1
  have hsub : ∀ s, s ∈ S1 ++ S2 → s ∈ S1 ++ r :: S2 := fun s hs => by
    rw [List.mem_append] at hs ⊢
    rcases hs with hs | hs
    · exact .inl hs
    · exact .inr (List.mem_cons_of_mem _ hs)
  have hnB : ∀ s ∈ S1 ++ r :: S2, ¬ s.bs B := fun s hs => (h.not_gl hs).2
  obtain ⟨h1, h2, h3, h4, h5, h6, h7⟩ := h
  refine ⟨heap_kept hk h1 hgB, h2, hm, h4, fun s hs => (h5 s (hsub s hs)).kept hk (fun k hk1 hk2 => hnB s (hsub s hs) (by rw [← hk2]; exact hk1)), ?_, h7.kept hk (fun k o _ h8 h9 => offT_map h3 h8 h9)⟩
  rw [List.pairwise_append, List.pairwise_cons] at h6
  rw [List.pairwise_append]
  exact ⟨h6.1, h6.2.1.2, fun s hs t ht => h6.2.2 s hs t (by simp [ht])⟩
/-! Keys -/
theorem bytes_beq' (a b : ByteArray) : (a == b) = true ↔ a = b := by
  obtain ⟨x⟩ := a
  obtain ⟨y⟩ := b
  constructor
  · intro h
    have e : x = y := by simpa using (show (x == y) = true from h)
    rw [e]
  · intro h
    cases h
    show (x == x) = true
    simp
theorem key_beq (a b : ByteArray) : (a == b) = decide (a = b) := by
  by_cases h : a = b
  · rw [decide_eq_true h]; exact (bytes_beq' a b).2 h
  · rw [decide_eq_false h]
    cases hc : a == b with
    | false => rfl
    | true => exact absurd ((bytes_beq' a b).1 hc) h
def findE (key : ByteArray) : List LRec → Nat → Option (Nat × Value)
  | [], _ => none
  | r :: S, i => if key = r.key then some (i, .pointer (some ⟨r.g, 0, none⟩)) else findE key S (i + 1)
theorem findNow_ents (key : ByteArray) : ∀ (S : List LRec) (i : Nat), Instr.findNow .string (.string key) (S.map entOf) i = some (findE key S i)
  | [], i => rfl
  | r :: S, i => by
    rw [List.map_cons, Instr.findNow, findE]
    show (match Instr.sameNow .string (.string key) (.string r.key) with | some true => _ | some false => _ | none => _) = _
    show (match some (key == r.key) with | some true => _ | some false => _ | none => _) = _
    rw [key_beq]
    by_cases h : key = r.key
    · rw [decide_eq_true h, if_pos h]; rfl
    · rw [decide_eq_false h, if_neg h]; exact findNow_ents key S (i + 1)
theorem findE_none {key : ByteArray} : ∀ {S : List LRec} {i : Nat}, findE key S i = none → ∀ s ∈ S, s.key ≠ key
  | [], _, _, s, hs => by cases hs
  | r :: S, i, h, s, hs => by
    rw [findE] at h
    by_cases e : key = r.key
    · rw [if_pos e] at h; cases h
    · rw [if_neg e] at h
      rcases List.mem_cons.1 hs with rfl | hs
      · exact fun e2 => e e2.symm
      · exact findE_none h s hs
theorem findE_some {key : ByteArray} : ∀ {S : List LRec} {i : Nat} {x : Nat × Value}, findE key S i = some x → ∃ S1 r S2, S = S1 ++ r :: S2 ∧ r.key = key ∧ (∀ s ∈ S1, s.key ≠ key) ∧ x = (i + S1.length, .pointer (some ⟨r.g, 0, none⟩))
  | [], _, _, h => by cases h
  | r :: S, i, x, h => by
    rw [findE] at h
    by_cases e : key = r.key
    · rw [if_pos e] at h
      injection h with h
      exact ⟨[], r, S, rfl, e.symm, by simp, by rw [← h]; simp⟩
    · rw [if_neg e] at h
      obtain ⟨S1, r', S2, h1, h2, h3, h4⟩ := findE_some h
      refine ⟨r :: S1, r', S2, by rw [h1]; rfl, h2, fun s hs => ?_, by rw [h4, List.length_cons]; congr 1; omega⟩
      rcases List.mem_cons.1 hs with rfl | hs
      · exact fun e2 => e e2.symm
      · exact h3 s hs

def lookV (key : ByteArray) (S : List LRec) : Value := match findE key S 0 with
  | some x => x.2
  | none => .pointer none
theorem run_findKey (W : World) (key : ByteArray) (S : List LRec) : (Instr.findKey 9 (.string key) (S.map entOf)).run Try.prog W = .ok (findE key S 0) W := by
  have hu := Try.underlying9
  unfold Instr.findKey
  simp [hu, go_sem, findNow_ents]
theorem run_checkKey (W : World) (b : Bool) (key : ByteArray) : (Instr.checkKey b 10000 9 (.string key)).run Try.prog W = .ok () W := by
  have hu := Try.underlying9
  rw [Instr.checkKey]
  simp [hu, go_sem]
theorem run_get (W : World) {B clk : Nat} {es : Array MapEntry} (hm : W.heap[B]? = some (.map es clk)) : (getObj B).run Try.prog W = .ok (.map es clk) W := by simp [getObj, Sem.run, hm]
theorem run_set (W : World) {B clk : Nat} {es : Array MapEntry} {o' : Obj} (hm : W.heap[B]? = some (.map es clk)) : (setObj B o').run Try.prog W = .ok () (W.putObj B o') := by simp [setObj, Sem.run, World.putObj, hm]
theorem run_look (W : World) {B clk : Nat} {S : List LRec} (key : ByteArray) (hm : W.heap[B]? = some (.map (S.map entOf).toArray clk)) : (Instr.lookup 49 (.map (some B)) (.string key) false).run Try.prog W = .ok (lookV key S) W := by
  have hu := Try.underlying49
  have hz : (zeroValue 53).run Try.prog W = .ok (.pointer none) W := Try.zeroValue53 W
  have hf := run_findKey W key S
  have hk := fun b => run_checkKey W b key
  have hg := run_get W hm
  unfold Instr.lookup lookV
  simp [hu, go_sem, hg, hz, hf, hk]
  cases findE key S 0 with
  | none => simp [hz, go_sem]
  | some x => rfl
theorem run_look_nil (W : World) (key : ByteArray) : (Instr.lookup 49 (.map none) (.string key) false).run Try.prog W = .ok (.pointer none) W := by
  have hu := Try.underlying49
  have hz : (zeroValue 53).run Try.prog W = .ok (.pointer none) W := Try.zeroValue53 W
  have hf := run_findKey W key []
  have hk := fun b => run_checkKey W b key
  unfold Instr.lookup
  simp at hf
  simp [hu, go_sem, hz, hf, hk, findE]
theorem run_put (W : World) {B clk : Nat} {S : List LRec} (r : LRec) (hm : W.heap[B]? = some (.map (S.map entOf).toArray clk)) (hn : findE r.key S 0 = none) (hb : r.born = clk) : (Instr.mapUpdate 49 (.map (some B)) (.string r.key) (.pointer (some ⟨r.g, 0, none⟩))).run Try.prog W = .ok () (W.putObj B (.map ((S ++ [r]).map entOf).toArray (clk + 1))) := by
  have hu := Try.underlying49
  have hf := run_findKey W r.key S
  have hk := fun b => run_checkKey W b r.key
  rw [hn] at hf
  have hg := run_get W hm
  have hs := fun o' => run_set W (o' := o') hm
  unfold Instr.mapUpdate
  simp [hu, go_sem, hg, hs, hf, hk, entOf, hb]
theorem run_del (W : World) {B clk : Nat} {S1 S2 : List LRec} {r : LRec} (hm : W.heap[B]? = some (.map ((S1 ++ r :: S2).map entOf).toArray clk)) (hn : ∀ s ∈ S1, s.key ≠ r.key) : (Builtin.delete_ #[49, 9] 0 #[.map (some B), .string r.key]).run Try.prog W = .ok (.tuple #[]) (W.putObj B (.map ((S1 ++ S2).map entOf).toArray clk)) := by
  have hu := Try.underlying49
  have hf := run_findKey W r.key (S1 ++ r :: S2)
  have hfe : ∀ (T : List LRec) (i : Nat), (∀ s ∈ T, s.key ≠ r.key) → findE r.key (T ++ r :: S2) i = some (i + T.length, .pointer (some ⟨r.g, 0, none⟩)) := by
    intro T
    induction T with
    | nil => intro i _; rw [List.nil_append, findE, if_pos rfl]; simp
    | cons s T ih =>
      intro i h
      rw [List.cons_append, findE, if_neg (fun e => h s (by simp) e.symm), ih (i + 1) (fun s hs => h s (by simp [hs])), List.length_cons]
      congr 2
      omega
  rw [hfe S1 0 hn] at hf
  have hk := fun b => run_checkKey W b r.key
  have hg := run_get W hm
  have hs := fun o' => run_set W (o' := o') hm
  unfold Builtin.delete_
  simp only [List.map_append, List.map_cons] at hf hg ⊢
  simp [hu, go_sem, hg, hs, hf, hk]
  congr 3
  rw [List.eraseIdx_append_of_length_le (by rw [List.length_map]; exact Nat.le_refl _), List.length_map, Nat.sub_self]
  rfl
end Go.Proofs.Ytdhabfjfpbdjfaa.Pr
