/- Graphs in plain words: what leads to what, and rings. -/
namespace Go.Proofs.Ytgjjfldfdkoedaa.Graph
set_option linter.unusedVariables false
/-- a leads to b, along one edge or more. -/
inductive Reach {α : Type} (E : List (α × α)) : α → α → Prop
  | edge {a b : α} : (a, b) ∈ E → Reach E a b
  | step {a c b : α} : (a, c) ∈ E → Reach E c b → Reach E a b
section
variable {α : Type} {E E' : List (α × α)} {a b c : α}
theorem Reach.trans (h : Reach E a b) (k : Reach E b c) : Reach E a c := by
  induction h with
  | edge h => exact .step h k
  | step h _ ih => exact .step h (ih k)
theorem Reach.snoc (h : Reach E a b) (k : (b, c) ∈ E) : Reach E a c := h.trans (.edge k)
theorem Reach.mono (h : Reach E a b) (hs : ∀ e ∈ E, e ∈ E') : Reach E' a b := by
  induction h with
  | edge h => exact .edge (hs _ h)
  | step h _ ih => exact .step (hs _ h) ih
theorem Reach.first (h : Reach E a b) : ∃ c, (a, c) ∈ E := by
  cases h with
  | edge h => exact ⟨_, h⟩
  | step h _ => exact ⟨_, h⟩
theorem Reach.last (h : Reach E a b) : ∃ c, (c, b) ∈ E := by
  induction h with
  | edge h => exact ⟨_, h⟩
  | step _ _ ih => exact ih
/-- What is closed under edges, and has what a's edges lead to, has all that a leads to. -/
theorem Reach.closed {S : α → Prop} (h : Reach E a b) (ha : ∀ y, (a, y) ∈ E → S y) (hc : ∀ x y, S x → (x, y) ∈ E → S y) : S b := by
  induction h with
  | edge h => exact ha _ h
  | step h _ ih => exact ih (fun y hy => hc _ _ (ha _ h) hy)
theorem reach_nil (h : Reach ([] : List (α × α)) a b) : False := by
  obtain ⟨c, hc⟩ := h.first
  cases hc
/-- L is the ring of a, rising. -/
structure RingL (lt : α → α → Prop) (E : List (α × α)) (a : α) (L : List α) : Prop where
  sorted : L.Pairwise lt
  mem : ∀ x, x ∈ L ↔ Reach E a x ∧ Reach E x a
/-- What is asked of an order. -/
structure Ord (lt : α → α → Prop) : Prop where
  irrefl : ∀ a, ¬ lt a a
  trans : ∀ a b c, lt a b → lt b c → lt a c
theorem sorted_eq {lt : α → α → Prop} (O : Ord lt) : ∀ {l l' : List α}, l.Pairwise lt → l'.Pairwise lt → (∀ x, x ∈ l ↔ x ∈ l') → l = l'
  | [], [], _, _, _ => rfl
  | [], y :: l', _, _, h => absurd ((h y).2 (.head _)) (by simp)
  | y :: l, [], _, _, h => absurd ((h y).1 (.head _)) (by simp)
  | x :: l, y :: l', h1, h2, h => by
    rw [List.pairwise_cons] at h1 h2
    have hxy : x = y := by
      rcases List.mem_cons.1 ((h x).1 (.head _)) with e | hx
      · exact e
      · rcases List.mem_cons.1 ((h y).2 (.head _)) with e | hy
        · exact e.symm
        · exact absurd (O.trans _ _ _ (h1.1 y hy) (h2.1 x hx)) (O.irrefl _)
    subst hxy
    rw [sorted_eq O h1.2 h2.2 (fun z => ?_)]
    constructor
    · intro hz
      rcases List.mem_cons.1 ((h z).1 (.tail _ hz)) with e | hz'
      · subst e; exact absurd (h1.1 _ hz) (O.irrefl _)
      · exact hz'
    · intro hz
      rcases List.mem_cons.1 ((h z).2 (.tail _ hz)) with e | hz'
      · subst e; exact absurd (h2.1 _ hz) (O.irrefl _)
      · exact hz'
theorem RingL.unique {lt : α → α → Prop} (O : Ord lt) {L L' : List α} (h : RingL lt E a L) (h' : RingL lt E a L') : L = L' :=
  sorted_eq O h.sorted h'.sorted (fun x => (h.mem x).trans (h'.mem x).symm)
theorem RingL.congr {lt : α → α → Prop} {L : List α} (h : RingL lt E a L) (hs : ∀ e, e ∈ E ↔ e ∈ E') : RingL lt E' a L :=
  ⟨h.sorted, fun x => (h.mem x).trans ⟨fun q => ⟨q.1.mono fun e => (hs e).1, q.2.mono fun e => (hs e).1⟩, fun q => ⟨q.1.mono fun e => (hs e).2, q.2.mono fun e => (hs e).2⟩⟩⟩
theorem RingL.self_iff {lt : α → α → Prop} {L : List α} (h : RingL lt E a L) : L ≠ [] ↔ Reach E a a := by
  constructor
  · intro hn
    obtain ⟨x, hx⟩ := List.exists_mem_of_ne_nil L hn
    have := (h.mem x).1 hx
    exact this.1.trans this.2
  · intro hr hn
    have := (h.mem a).2 ⟨hr, hr⟩
    rw [hn] at this
    cases this
/-- The ring of one of a ring is the ring. -/
theorem RingL.of_mem {lt : α → α → Prop} {L : List α} (h : RingL lt E a L) {x : α} (hx : x ∈ L) : RingL lt E x L := by
  have hax := (h.mem x).1 hx
  refine ⟨h.sorted, fun y => (h.mem y).trans ⟨fun q => ⟨hax.2.trans q.1, q.2.trans hax.1⟩, fun q => ⟨hax.1.trans q.1, q.2.trans hax.2⟩⟩⟩
/-- What the search has found: S, and wait is still to be looked at. -/
structure Search (E : List (α × α)) (a : α) (S wait : List α) : Prop where
  sound : ∀ x ∈ S, Reach E a x
  from_ : ∀ x ∈ wait, x = a ∨ x ∈ S
  done : ∀ x, x = a ∨ x ∈ S → x ∈ wait ∨ ∀ y, (x, y) ∈ E → y ∈ S
theorem Search.start : Search E a [] [a] := ⟨by simp, by simp, by simp⟩
theorem Search.stop {S : List α} (h : Search E a S []) (b : α) : b ∈ S ↔ Reach E a b :=
  ⟨h.sound b, fun hr => hr.closed (S := (· ∈ S)) (fun y hy => by
    rcases h.done a (.inl rfl) with h' | h'
    · cases h'
    · exact h' y hy) (fun x y hx hy => by
    rcases h.done x (.inr hx) with h' | h'
    · cases h'
    · exact h' y hy)⟩
/-- In the midst of a thing's edges: those of todo are to come. -/
structure Within (E todo : List (α × α)) (a x : α) (S wait : List α) : Prop where
  sound : ∀ y ∈ S, Reach E a y
  here : x = a ∨ x ∈ S
  from_ : ∀ y ∈ wait, y = a ∨ y ∈ S
  mine : ∀ y, (x, y) ∈ E → (x, y) ∈ todo ∨ y ∈ S
  done : ∀ z, z = a ∨ z ∈ S → z ∈ wait ∨ z = x ∨ ∀ y, (z, y) ∈ E → y ∈ S
theorem Search.within {S wait : List α} {x : α} (h : Search E a S (x :: wait)) : Within E E a x S wait :=
  ⟨h.sound, h.from_ x (.head _), fun y hy => h.from_ y (.tail _ hy), fun y hy => .inl hy, fun z hz => by
    rcases h.done z hz with h' | h'
    · rcases List.mem_cons.1 h' with e | h'
      · exact .inr (.inl e)
      · exact .inl h'
    · exact .inr (.inr h')⟩
theorem Within.search {S wait : List α} {x : α} (h : Within E [] a x S wait) : Search E a S wait :=
  ⟨h.sound, h.from_, fun z hz => by
    rcases h.done z hz with h' | rfl | h'
    · exact .inl h'
    · exact .inr (fun y hy => by
        rcases h.mine y hy with h' | h'
        · cases h'
        · exact h')
    · exact .inr h'⟩
/-- An edge that leads to nothing new. -/
theorem Within.skip {S wait : List α} {todo todo' : List (α × α)} {x : α} (h : Within E todo a x S wait) {e : α × α} (ht : ∀ d ∈ todo, d ∈ todo' ∨ d = e) (he : e.1 = x → e.2 ∈ S) : Within E todo' a x S wait :=
  ⟨h.sound, h.here, h.from_, fun y hy => by
    rcases h.mine y hy with h' | h'
    · rcases ht _ h' with h' | h'
      · exact .inl h'
      · have := he (by rw [← h']); rw [← h'] at this; exact .inr this
    · exact .inr h', h.done⟩
/-- An edge that leads to something new. -/
theorem Within.find {S wait : List α} {todo todo' : List (α × α)} {x y : α} (h : Within E todo a x S wait) (hy : (x, y) ∈ E) (ht : ∀ d ∈ todo, d ∈ todo' ∨ d = (x, y)) : Within E todo' a x (S ++ [y]) (wait ++ [y]) := by
  have hs : ∀ z ∈ S, z ∈ S ++ [y] := fun z hz => List.mem_append_left _ hz
  have hyy : y ∈ S ++ [y] := by simp
  refine ⟨fun z hz => ?_, h.here.imp id (hs x), fun z hz => ?_, fun z hz => ?_, fun z hz => ?_⟩
  · rcases List.mem_append.1 hz with hz | hz
    · exact h.sound z hz
    · rw [List.mem_singleton.1 hz]
      rcases h.here with rfl | hx
      · exact .edge hy
      · exact (h.sound x hx).snoc hy
  · rcases List.mem_append.1 hz with hz | hz
    · exact (h.from_ z hz).imp id (hs z)
    · rw [List.mem_singleton.1 hz]; exact .inr hyy
  · rcases h.mine z hz with h' | h'
    · rcases ht _ h' with h' | h'
      · exact .inl h'
      · rw [(Prod.mk.inj h').2]; exact .inr hyy
    · exact .inr (hs z h')
  · have old : z = a ∨ z ∈ S → z ∈ wait ++ [y] ∨ z = x ∨ ∀ u, (z, u) ∈ E → u ∈ S ++ [y] := fun hz => by
      rcases h.done z hz with h' | h' | h'
      · exact .inl (List.mem_append_left _ h')
      · exact .inr (.inl h')
      · exact .inr (.inr (fun u hu => hs u (h' u hu)))
    rcases hz with hz | hz
    · exact old (.inl hz)
    · rcases List.mem_append.1 hz with hz | hz
      · exact old (.inr hz)
      · rw [List.mem_singleton.1 hz]; exact .inl (by simp)
/-- How many edges lead to what was not found. -/
def fresh [DecidableEq α] (E : List (α × α)) (S : List α) : Nat := (E.filter fun e => decide (e.2 ∉ S)).length
theorem fresh_mono [DecidableEq α] (E : List (α × α)) {S S' : List α} (h : ∀ y ∈ S, y ∈ S') : fresh E S' ≤ fresh E S := by
  unfold fresh
  induction E with
  | nil => simp
  | cons e E ih =>
    simp only [List.filter_cons]
    by_cases h1 : e.2 ∈ S
    · have h2 := h _ h1
      simp [h1, h2] at ih ⊢
      exact ih
    · by_cases h2 : e.2 ∈ S'
      · simp [h1, h2] at ih ⊢
        omega
      · simp [h1, h2] at ih ⊢
        exact ih
theorem fresh_find [DecidableEq α] {E : List (α × α)} {S : List α} {x y : α} (hm : (x, y) ∈ E) (hy : y ∉ S) : fresh E (S ++ [y]) + 1 ≤ fresh E S := by
  induction E with
  | nil => cases hm
  | cons e E ih =>
    have hle := fresh_mono E (S := S) (S' := S ++ [y]) (fun z hz => List.mem_append_left _ hz)
    unfold fresh at ih hle ⊢
    simp only [List.filter_cons]
    by_cases he : e.2 = y
    · have h1 : decide (e.2 ∉ S ++ [y]) = false := by simp [he]
      have h2 : decide (e.2 ∉ S) = true := by simpa [he] using hy
      rw [h1, h2]
      simp only [Bool.false_eq_true, if_false, if_true, List.length_cons]
      omega
    · have hm' : (x, y) ∈ E := by
        rcases List.mem_cons.1 hm with q | q
        · exact absurd (by rw [← q]) he
        · exact q
      have := ih hm'
      by_cases h1 : e.2 ∈ S
      · have h2 : decide (e.2 ∉ S ++ [y]) = false := by simp [h1]
        have h3 : decide (e.2 ∉ S) = false := by simp [h1]
        rw [h2, h3]
        simpa using this
      · have h2 : decide (e.2 ∉ S ++ [y]) = true := by simp [h1, he]
        have h3 : decide (e.2 ∉ S) = true := by simpa using h1
        rw [h2, h3]
        simp only [if_true, List.length_cons]
        omega
theorem fresh_le [DecidableEq α] (E : List (α × α)) (S : List α) : fresh E S ≤ E.length := List.length_filter_le _ _
theorem nodup_le [DecidableEq α] : ∀ {L M : List α}, L.Nodup → (∀ x ∈ L, x ∈ M) → L.length ≤ M.length
  | [], _, _, _ => Nat.zero_le _
  | x :: L, M, hn, hs => by
    rw [List.nodup_cons] at hn
    have hx := hs x (.head _)
    have ih := nodup_le (M := M.erase x) hn.2 (fun y hy => (List.mem_erase_of_ne (fun e => hn.1 (by rw [← e]; exact hy))).2 (hs y (.tail _ hy)))
    rw [List.length_erase_of_mem hx] at ih
    have := List.length_pos_of_mem hx
    simp only [List.length_cons]
    omega
theorem RingL.nodup {lt : α → α → Prop} (O : Ord lt) {L : List α} (h : RingL lt E a L) : L.Nodup :=
  List.Pairwise.imp (R := lt) (S := fun a b => a ≠ b) (fun {a b} (hab : lt a b) (e : a = b) => O.irrefl b (by rw [e] at hab; exact hab)) h.sorted
theorem RingL.le [DecidableEq α] {lt : α → α → Prop} (O : Ord lt) {L : List α} (h : RingL lt E a L) : L.length ≤ E.length := by
  have := nodup_le (M := E.map (·.2)) (h.nodup O) (fun x hx => by
    obtain ⟨c, hc⟩ := ((h.mem x).1 hx).1.last
    exact List.mem_map.2 ⟨_, hc, rfl⟩)
  simpa using this
end
end Go.Proofs.Ytgjjfldfdkoedaa.Graph
