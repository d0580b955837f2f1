/- All updates: the program's and the reference's come to the same; in plain Lean. -/
import Derived.Test.YtgepbdkbleapaaaPl13w
namespace Go.Proofs.Ytgepbdkbleapaaa.Pl
set_option linter.unusedVariables false
set_option linter.unusedSimpArgs false
open Go.RowKit Go.Proofs.Ytgepbdkbleapaaa.M Go.Proofs.YtgepbdkbleapaaaW.PrintWords Go.Proofs.YtgepbdkbleapaaaW.PrintLast

/-- Refs behind updates. -/
def appS (ws : List Wy) (h : ByteArray) (L : List Rf) : List Up → List Up → List Rf → ByteArray × List Rf × Int
  | _, [], ol => if (ol.length : Int) > 256 then (h, L, 3) else (h, ol, 0)
  | done, u :: us, ol => if 0 ≤ refs_Apply.find u.f0 done 0 then (h, L, 1) else if whyE h (getL u.f0 L) u ws = 0 then appS ws h L (done ++ [u]) us (setS u.f0 u.f2 ol) else (h, L, whyE h (getL u.f0 L) u ws)
theorem appS_head (ws : List Wy) (h : ByteArray) (L : List Rf) : ∀ (us done : List Up) (ol : List Rf), (appS ws h L done us ol).1 = h ∧ (L.length ≤ 300 → ol.length + us.length ≤ 400 → (appS ws h L done us ol).2.1.length ≤ 400)
  | [], done, ol => by
    rw [appS]
    split
    · exact ⟨rfl, fun h1 _ => by dsimp only; omega⟩
    · exact ⟨rfl, fun _ h2 => by simp only [List.length_nil] at h2; dsimp only; omega⟩
  | u :: us, done, ol => by
    rw [appS]
    split
    · exact ⟨rfl, fun h1 _ => by dsimp only; omega⟩
    · split
      · obtain ⟨i1, i2⟩ := appS_head ws h L us (done ++ [u]) (setS u.f0 u.f2 ol)
        have := setS_len u.f0 u.f2 ol
        exact ⟨i1, fun h1 h2 => i2 h1 (by simp only [List.length_cons] at h2; omega)⟩
      · exact ⟨rfl, fun h1 _ => by dsimp only; omega⟩
theorem go_prog (ws : List Wy) (hw : ws.length ≤ 1000) (h : ByteArray) (L : List Rf) (hL : L.length ≤ 300) (hs : srt L) : ∀ (us done : List Up) (ol : List Rf), srt ol → ol.length + us.length ≤ 400 → Ev (fun k => refs_ApplyW.go ws k h L done us h ol) (appS ws h L done us ol) := by
  intro us
  induction us with
  | nil =>
    intro done ol h1 h2
    rw [appS]
    by_cases c : (ol.length : Int) > 256
    · rw [if_pos c]
      exact Ev.congr (fun k => by simp only [refs_ApplyW.go]; rw [if_pos c]) (Ev.now _)
    · rw [if_neg c]
      exact Ev.congr (fun k => by simp only [refs_ApplyW.go]; rw [if_neg c]) (Ev.now _)
  | cons u us ih =>
    intro done ol h1 h2
    simp only [List.length_cons] at h2
    rw [appS]
    by_cases c : 0 ≤ refs_Apply.find u.f0 done 0
    · rw [if_pos c]
      exact Ev.congr (fun k => by simp only [refs_ApplyW.go]; rw [if_pos c]) (Ev.now _)
    · rw [if_neg c]
      refine Ev.congr (f := fun k => (refs_whyW.f ws k h L u.f0 u.f1 u.f2 u.f3).bind fun e => if e = 0 then (refs_set.f k h ol u.f0 u.f2).bind fun r => refs_ApplyW.go ws k h L (done ++ [u]) us r.1 r.2 else some (h, L, e)) (fun k => by simp only [refs_ApplyW.go]; rw [if_neg c]) ?_
      refine Ev.bind (why_prog hw (by omega) hs) ?_
      by_cases c2 : whyE h (getL u.f0 L) u ws = 0
      · rw [if_pos c2]
        refine Ev.congr (fun k => if_pos c2) ?_
        refine Ev.bind (set_prog h u.f0 u.f2 ol (by omega) h1) ?_
        have := setS_len u.f0 u.f2 ol
        exact ih (done ++ [u]) _ (setS_srt u.f0 u.f2 ol h1) (by dsimp only; omega)
      · rw [if_neg c2]
        exact Ev.congr (fun k => if_neg c2) (Ev.now _)
theorem find_iff (n : ByteArray) : ∀ (l : List Up) (i : Nat), 0 ≤ refs_Apply.find n l i ↔ ∃ x ∈ l, x.f0.toList = n.toList
  | [], i => by simp [refs_Apply.find]
  | x :: l, i => by
    rw [refs_Apply.find]
    by_cases c : x.f0.toList = n.toList
    · rw [if_pos c]
      exact ⟨fun _ => ⟨x, List.mem_cons_self .., c⟩, fun _ => by omega⟩
    · rw [if_neg c, find_iff n l (i + 1)]
      exact ⟨fun ⟨y, hy, e⟩ => ⟨y, List.mem_cons_of_mem _ hy, e⟩, fun ⟨y, hy, e⟩ => by
        rcases List.mem_cons.mp hy with rfl | hy
        · exact absurd e c
        · exact ⟨y, hy, e⟩⟩
/-- What the reference has. -/
def mapR (x : ByteArray × List Rf × Int) : ByteArray × List Rg × Int := (x.1, x.2.1.map toR, x.2.2)
theorem app_dup (ws : List Wy) (h : ByteArray) (L ol : List Rf) (us : List Up) (hu : us.length ≤ 1000) (i : Nat) (hi : i < us.length) (r : ByteArray × List Rg × Int)
    (hd : 0 ≤ refs_Apply.find (us[i]'hi).f0 (us.take i) 0 → r = (h, L.map toR, 1))
    (hn : ¬ 0 ≤ refs_Apply.find (us[i]'hi).f0 (us.take i) 0 → Ev (fun k => pollardref13_Apply.l1 k (us.map toU) ws (i : Int) (i : Int) h (L.map toR) h (ol.map toR)) r) :
    ∀ (n j : Nat), i - j = n → j ≤ i → (∀ t (ht : t < us.length), t < j → ¬ (us[t]'ht).f0.toList = (us[i]'hi).f0.toList) → Ev (fun k => pollardref13_Apply.l1 k (us.map toU) ws (i : Int) (j : Int) h (L.map toR) h (ol.map toR)) r := by
  intro n
  induction n with
  | zero =>
    intro j hm hj hall
    obtain rfl : j = i := by omega
    refine hn (fun hf => ?_)
    obtain ⟨y, hy, e⟩ := (find_iff _ _ _).mp hf
    obtain ⟨t, ht, rfl⟩ := List.mem_iff_getElem.mp hy
    rw [List.length_take] at ht
    rw [List.getElem_take] at e
    exact hall t (by omega) (by omega) e
  | succ n ih =>
    intro j hm hj hall
    have hlt : j < us.length := by omega
    have r0 := rdU' us j hlt
    have r1 := rdU' us i hi
    by_cases c : (us[j]'hlt).f0.toList = (us[i]'hi).f0.toList
    · rw [hd ((find_iff _ _ _).mpr ⟨us[j]'hlt, List.mem_iff_getElem.mpr ⟨j, by rw [List.length_take]; omega, List.getElem_take⟩, c⟩)]
      refine Ev.step (f := fun _ => some (h, L.map toR, 1)) (fun k => ?_) (Ev.now _)
      simp only [pollardref13_Apply.l1, List.length_map]
      rw [if_pos (by omega), if_pos (by omega), if_pos (by omega), if_pos (by omega), if_pos (by omega), r0, r1, if_pos (show (toU (us[j]'hlt)).f0.toList = (toU (us[i]'hi)).f0.toList from c)]
    · refine Ev.step (fun k => ?_) (ih (j + 1) (by omega) (by omega) (fun t ht htj => by
        by_cases e : t = j
        · subst e; exact c
        · exact hall t ht (by omega)))
      simp only [pollardref13_Apply.l1, List.length_map]
      rw [if_pos (by omega), if_pos (by omega), if_pos (by omega), if_pos (by omega), if_pos (by omega), r0, r1, if_neg (show ¬ (toU (us[j]'hlt)).f0.toList = (toU (us[i]'hi)).f0.toList from c), w13 (by omega)]
theorem app_ref (ws : List Wy) (hw : ws.length ≤ 1000) (h : ByteArray) (L : List Rf) (hL : L.length ≤ 300) (us : List Up) (hu : us.length ≤ 100) (hsz : ∀ u ∈ us, u.f0.size ≤ 140737488351232) : ∀ (n i : Nat) (ol : List Rf), us.length - i = n → i ≤ us.length → srt ol → ol.length + (us.length - i) ≤ 400 →
    Ev (fun k => pollardref13_Apply.l0 k (us.map toU) ws (i : Int) h (L.map toR) h (ol.map toR)) (mapR (appS ws h L (us.take i) (us.drop i) ol)) := by
  intro n
  induction n with
  | zero =>
    intro i ol hn hi hs hl
    rw [List.drop_eq_nil_of_le (by omega), appS]
    by_cases c : (ol.length : Int) > 256
    · rw [if_pos c]
      refine Ev.step (f := fun _ => some (h, L.map toR, 3)) (fun k => ?_) (Ev.now _)
      simp only [pollardref13_Apply.l0, List.length_map]
      rw [if_neg (by omega), if_pos c]
    · rw [if_neg c]
      refine Ev.step (f := fun _ => some (h, ol.map toR, 0)) (fun k => ?_) (Ev.now _)
      simp only [pollardref13_Apply.l0, List.length_map]
      rw [if_neg (by omega), if_neg c]
  | succ n ih =>
    intro i ol hn hi hs hl
    have hlt : i < us.length := by omega
    have r1 := rdU' us i hlt
    have hz := hsz _ (List.getElem_mem hlt)
    rw [List.drop_eq_getElem_cons hlt, appS]
    have hl2 := setS_len (us[i]'hlt).f0 (us[i]'hlt).f2 ol
    have et : us.take i ++ [us[i]'hlt] = us.take (i + 1) := by rw [List.take_add_one, List.getElem?_eq_getElem hlt]; rfl
    refine Ev.step (f := fun k => pollardref13_Apply.l1 k (us.map toU) ws (i : Int) ((0 : Nat) : Int) h (L.map toR) h (ol.map toR)) (fun k => ?_) ?_
    · simp only [pollardref13_Apply.l0, List.length_map]
      rw [if_pos (by omega)]
      rfl
    · refine app_dup ws h L ol us (by omega) i hlt _ (fun c => by rw [if_pos c]; rfl) (fun c => ?_) i 0 (by omega) (by omega) (fun t ht htj => by omega)
      rw [if_neg c]
      refine Ev.step (f := fun k => (pollardref13_why.f k h (L.map toR) (us[i]'hlt).f0 (us[i]'hlt).f1 (us[i]'hlt).f2 (us[i]'hlt).f3 ws).bind fun t183 => (if t183 = 0 then ((pollardref13_set.f k h (ol.map toR) (us[i]'hlt).f0 (us[i]'hlt).f2).bind fun bt186 => (pollardref13_Apply.l0 k (us.map toU) ws ((i + 1 : Nat) : Int) h (L.map toR) bt186.1 bt186.2)) else (some (h, L.map toR, t183)))) (fun k => ?_) ?_
      · simp only [pollardref13_Apply.l1, List.length_map]
        rw [if_neg (by omega), if_pos (by omega), if_pos (by omega), r1, w13 (by omega)]
        rfl
      · refine Ev.bind (why_ref hw (by omega) hz) ?_
        by_cases c2 : whyE h (getL (us[i]'hlt).f0 L) (us[i]'hlt) ws = 0
        · rw [if_pos c2]
          refine Ev.congr (fun k => if_pos c2) ?_
          refine Ev.bind (set_refF h (us[i]'hlt).f0 (us[i]'hlt).f2 ol (by omega) hs) ?_
          have g := ih (i + 1) (setS (us[i]'hlt).f0 (us[i]'hlt).f2 ol) (by omega) (by omega) (setS_srt _ _ ol hs) (by omega)
          rw [et]
          exact g
        · rw [if_neg c2]
          exact Ev.congr (fun k => if_neg c2) (Ev.now _)
/-- Refs behind updates, or why not. -/
def appF (ws : List Wy) (h : ByteArray) (L : List Rf) (us : List Up) : ByteArray × List Rf × Int := if (us.length : Int) > 256 then (h, L, 3) else if chk h L = 0 then appS ws h L [] us L else (h, L, chk h L)
theorem chk_good {h : ByteArray} {L : List Rf} (hc : chk h L = 0) : L.length ≤ 256 ∧ srt L := by
  unfold chk at hc
  by_cases c1 : (L.length : Int) > 256
  · rw [if_pos c1] at hc; exact absurd hc (by decide)
  · rw [if_neg c1] at hc
    by_cases c2 : refK h = 1
    · rw [if_pos c2] at hc
      exact ⟨by omega, (chk_srt L none hc).1⟩
    · rw [if_neg c2] at hc; exact absurd hc (by decide)
theorem appF_len (ws : List Wy) (h : ByteArray) (L : List Rf) (us : List Up) (hL : L.length ≤ 300) (hu : us.length ≤ 100) : (appF ws h L us).1 = h ∧ (appF ws h L us).2.1.length ≤ 400 := by
  unfold appF
  split
  · exact ⟨rfl, by dsimp only; omega⟩
  · split
    · obtain ⟨a, b⟩ := appS_head ws h L us [] L
      exact ⟨a, b hL (by omega)⟩
    · exact ⟨rfl, by dsimp only; omega⟩
theorem apply_prog (ws : List Wy) (hw : ws.length ≤ 1000) (h : ByteArray) (L : List Rf) (us : List Up) (hu : us.length ≤ 100) : Ev (fun k => refs_ApplyW.f k h L us ws) (appF ws h L us) := by
  unfold refs_ApplyW.f appF
  rw [if_neg (by omega)]
  refine Ev.congr (fun k => if_neg (by omega)) ?_
  refine Ev.bind (chk_prog h L) ?_
  by_cases c : chk h L = 0
  · rw [if_pos c]
    obtain ⟨h1, h2⟩ := chk_good c
    refine Ev.congr (fun k => if_pos c) ?_
    refine Ev.congr (fun k => if_pos (by omega)) ?_
    exact go_prog ws hw h L (by omega) h2 us [] L h2 (by omega)
  · rw [if_neg c]
    exact Ev.congr (fun k => if_neg c) (Ev.now _)
theorem apply_ref (ws : List Wy) (hw : ws.length ≤ 1000) (h : ByteArray) (hh : h.size ≤ 140737488351232) (L : List Rf) (hsL : ∀ x ∈ L, x.f0.size ≤ 140737488351232) (us : List Up) (hu : us.length ≤ 100) (hsz : ∀ u ∈ us, u.f0.size ≤ 140737488351232) : Ev (fun k => pollardref13_Apply.f k h (L.map toR) (us.map toU) ws) (mapR (appF ws h L us)) := by
  unfold pollardref13_Apply.f appF
  rw [List.length_map, if_neg (by omega)]
  refine Ev.congr (fun k => if_neg (by omega)) ?_
  refine Ev.bind (chk_ref h L hh hsL) ?_
  by_cases c : chk h L = 0
  · rw [if_pos c]
    obtain ⟨h1, h2⟩ := chk_good c
    refine Ev.congr (fun k => if_pos c) ?_
    have g := app_ref ws hw h L (by omega) us hu hsz us.length 0 L (by omega) (by omega) h2 (by omega)
    rw [List.take_zero, List.drop_zero] at g
    exact g
  · rw [if_neg c]
    exact Ev.congr (fun k => if_neg c) (Ev.now _)
end Go.Proofs.Ytgepbdkbleapaaa.Pl
