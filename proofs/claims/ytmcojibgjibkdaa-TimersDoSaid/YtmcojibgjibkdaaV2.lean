/-
  Calls: the interpreter's answer is the machine's.
-/
import Derived.Test.YtmcojibgjibkdaaV1
import Derived.Below
import Derived.Deep.Slices
import Derived.SizedLaws
import Derived.ChangeArms
import Derived.WideShapes
namespace Go.Vi
set_option linter.unusedVariables false
set_option linter.unusedSimpArgs false

section
variable {P : Program} {E : En} {gh : Gh} {tab : List TC} {H : Hp} {w : World}

/-- the table's keys of what was lent -/
def lentKeys (mode : Nat → Nat) : Nat → List RV → List Nat
  | _, [] => []
  | i, v :: r => (if mode i = 2 ∧ isOwned v = true then [i] else []) ++ lentKeys mode (i + 1) r

theorem lentKeys_ge {mode : Nat → Nat} : ∀ {l : List RV} {i d : Nat}, d ∈ lentKeys mode i l → i ≤ d
  | [], _, _, h => by simp [lentKeys] at h
  | v :: r, i, d, h => by
    simp only [lentKeys, List.mem_append] at h
    rcases h with h | h
    · split at h
      · simp at h; omega
      · simp at h
    · have := lentKeys_ge h; omega

theorem lentKeys_nodup {mode : Nat → Nat} : ∀ {l : List RV} {i : Nat}, (lentKeys mode i l).Nodup
  | [], _ => .nil
  | v :: r, i => by
    simp only [lentKeys]
    rw [List.nodup_append]
    refine ⟨by split <;> simp, lentKeys_nodup, fun a ha b hb e => ?_⟩
    split at ha
    · simp at ha; have := lentKeys_ge hb; omega
    · simp at ha

/-- what was lent lies where it was -/
def lentAt (E : En) (mode : Nat → Nat) : Nat → List RV → List (Option Place) → Prop
  | i, a :: as, p :: ps => (mode i = 2 ∧ isOwned a = true → ∃ q, p = some q ∧ E.lent i = some q) ∧ lentAt E mode (i + 1) as ps
  | _, [], [] => True
  | _, _, _ => False

theorem same_row {t t' : TC} {g sz : Nat} {es : List VV} {lk : Bool} (h : t.same t') (ht : t = .row g es sz lk) : ∃ lk', t' = .row g es sz lk' := by
  subst ht
  cases t' <;> first | exact h.elim | (obtain ⟨rfl, rfl, rfl⟩ := h; exact ⟨_, rfl⟩)
theorem same_box {t t' : TC} {g : Nat} {cs : List SV} {wr : Bool} (h : t.same t') (ht : t = .box g cs wr) : ∃ wr', t' = .box g cs wr' := by
  subst ht
  cases t' <;> first | exact h.elim | (obtain ⟨rfl, rfl⟩ := h; exact ⟨_, rfl⟩)

theorem backs_run {mode : Nat → Nat} : ∀ {args : List RV} {k : Nat} {pl : List (Option Place)} {gh : Gh} {tab : List TC} {bs : List RV} {tab' : List TC}, Mem E gh tab H w → lentAt E mode k args pl →
    backs mode tab k args = some (bs, tab') → lentOk mode tab' k args = true →
    ∃ gh', Marks E H w gh tab gh' tab' ∧ bs.length = (lentPl mode k args pl).length ∧ (lentPl mode k args pl).map (·.1) = (lentKeys mode k args).map gh.β ∧ (∀ d, d ∈ lentKeys mode k args → (tget tab' d).active = true ∧ gh'.G (gh.β d) = 0) ∧
      ∀ (j : Nat) (p : Place) (r : RV), (lentPl mode k args pl)[j]? = some p → bs[j]? = some r → BackIn gh' H.next w p r := by
  intro args
  induction args with
  | nil =>
    intro k pl gh tab bs tab' M hat h _
    simp [backs] at h
    obtain ⟨rfl, rfl⟩ := h
    exact ⟨gh, Marks.refl M, by cases pl <;> simp [lentPl], by cases pl <;> simp [lentPl, lentKeys], by simp [lentKeys], fun j p r hj hr => by simp at hr⟩
  | cons v args ih =>
    intro k pl gh tab bs tab' M hat h hok
    cases pl with
    | nil => exact hat.elim
    | cons q pl =>
      obtain ⟨hq, hat⟩ := hat
      simp only [lentOk, Bool.and_eq_true] at hok
      obtain ⟨hok1, hok⟩ := hok
      simp only [backs] at h
      split at h
      · rename_i hc
        obtain ⟨⟨b, o, s⟩, rfl, hE⟩ := hq hc
        rw [if_pos hc] at hok1
        have hlk : lentKeys mode k (v :: args) = k :: lentKeys mode (k + 1) args := by simp only [lentKeys]; rw [if_pos hc]; rfl
        have hlp : lentPl mode k (v :: args) (some (b, o, s) :: pl) = (b, o, s) :: lentPl mode (k + 1) args pl := by simp only [lentPl]; rw [if_pos hc]; rfl
        rw [hlk, hlp]
        obtain ⟨l1, l2⟩ := M.lent k b o s hE
        split at h
        · rename_i es0 sz0 es sz hr
          rw [Option.map_eq_some_iff] at h
          obtain ⟨⟨bs2, t2⟩, h2, he⟩ := h
          simp only [Prod.mk.injEq] at he
          obtain ⟨rfl, rfl⟩ := he
          obtain ⟨gh', K, q1, q2, q3, q4⟩ := ih M hat h2 hok
          obtain ⟨rfl, rfl, rfl⟩ := l2 (by rw [hr]; rfl) (by rw [hr]; rfl)
          obtain ⟨lk', hr'⟩ := same_row (K.ent k) hr
          rw [hr'] at hok1
          have hlk' : lk' = false := by cases lk' <;> simp at hok1 ⊢
          subst hlk'
          have e := K.same
          have hin := row_in K.mem (off := 0) (n := es.length) hr' (by omega)
          simp only [List.drop_zero, List.take_length, Nat.zero_mul, Nat.add_zero] at hin
          rw [e.2.1, e.2.2.1, e.2.2.2] at hin
          refine ⟨gh', K, by simp [q1], by simp [q2], fun d hd => ?_, fun j p r hj hrj => ?_⟩
          · simp only [List.mem_cons] at hd
            rcases hd with rfl | hd
            · have := row_G K.mem hr'
              rw [e.2.1] at this
              exact ⟨by rw [hr']; rfl, this⟩
            · exact q3 d hd
          · cases j with
            | zero =>
              simp only [List.getElem?_cons_zero, Option.some.injEq] at hj hrj
              subst hj; subst hrj
              exact .row _ _ _ _ _ hin
            | succ j => exact q4 j p r (by simpa using hj) (by simpa using hrj)
        · rename_i off cs hr
          split at h
          · rename_i vs t1 hall
            rw [Option.map_eq_some_iff] at h
            obtain ⟨⟨bs2, t2⟩, h2, he⟩ := h
            simp only [Prod.mk.injEq] at he
            obtain ⟨rfl, rfl⟩ := he
            obtain ⟨c, ty, c1, c2, c3, c4⟩ := box_cells M hr
            have hss : SsRel gh tab H.next w cs c.toList := ⟨by simpa using c2, fun i x u hx hu => by
              obtain ⟨a1, a2⟩ := c3 i x hx
              have hu' : c[i]? = some u := by simpa using hu
              rw [a1] at hu'
              simp only [Option.some.injEq] at hu'
              rw [← hu']; exact a2⟩
            obtain ⟨gh1, K1, hv⟩ := outAll_run M hss hall
            have hvl := outAll_len hall
            obtain ⟨gh', K, q1, q2, q3, q4⟩ := ih K1.mem hat h2 hok
            obtain ⟨rfl, rfl, rfl⟩ := l2 (by rw [hr]; rfl) (by rw [hr]; rfl)
            have e := K.same
            have e1 := K1.same
            obtain ⟨wr1, hr1⟩ := same_box (K1.ent k) hr
            obtain ⟨wr', hr'⟩ := same_box (K.ent k) hr1
            rw [hr'] at hok1
            have hwr : wr' = true := by cases wr' <;> simp at hok1 ⊢
            subst hwr
            obtain ⟨_, _, _, _, _, d4⟩ := box_cells K.mem hr'
            refine ⟨gh', K1.trans K, by simp [q1], by simp [q2, e1.2.1], fun d hd => ?_, fun j p r hj hrj => ?_⟩
            · simp only [List.mem_cons] at hd
              rcases hd with rfl | hd
              · have := d4 rfl
                rw [e.2.1, e1.2.1] at this
                exact ⟨by rw [hr']; rfl, this⟩
              · have := q3 d hd
                rw [e1.2.1] at this
                exact this
            · cases j with
              | zero =>
                simp only [List.getElem?_cons_zero, Option.some.injEq] at hj hrj
                subst hj; subst hrj
                exact .box _ _ _ _ _ ⟨c, ty, c1, by omega, fun i x u hx hu => K.goes.v (hv.rel i x u hx (by simpa using hu))⟩
              | succ j => exact q4 j p r (by simpa using hj) (by simpa using hrj)
          · simp at h
        · simp at h
      · rename_i hc
        have hlk : lentKeys mode k (v :: args) = lentKeys mode (k + 1) args := by simp only [lentKeys]; rw [if_neg hc]; rfl
        have hlp : lentPl mode k (v :: args) (q :: pl) = lentPl mode (k + 1) args pl := by simp only [lentPl]; rw [if_neg hc]; rfl
        rw [hlk, hlp]
        exact ih M hat h hok

end
end Go.Vi

/-
  A call from its entry to its end.
-/
namespace Go.Vi
set_option linter.unusedVariables false
set_option linter.unusedSimpArgs false

section
variable {P : Program} {gh : Gh} {H : Hp} {w : World}

theorem argSlots_get : ∀ {l : List RV} {k i : Nat} {r : RV}, l[i]? = some r → (argSlots k l)[i]? = some (match r with | .val v => .val v | .full es => .full es | .own es sz => .own (k + i) 1 0 es.length sz | .box _ off => .loc (k + i) 1 off | .st _ => .val .undef)
  | [], k, i, r, h => by simp at h
  | a :: l, k, 0, r, h => by
    simp only [List.getElem?_cons_zero, Option.some.injEq] at h
    subst h
    cases a <;> simp [argSlots]
  | a :: l, k, i + 1, r, h => by
    have := argSlots_get (k := k + 1) (show l[i]? = some r by simpa using h)
    rw [show k + 1 + i = k + (i + 1) by omega] at this
    cases a <;> simpa [argSlots] using this

theorem argSlots_len : ∀ {l : List RV} {k : Nat}, (argSlots k l).length = l.length
  | [], _ => rfl
  | a :: l, k => by cases a <;> simp [argSlots, argSlots_len]

theorem argTab_get : ∀ {l : List RV} {i : Nat} {r : RV}, l[i]? = some r → (argTab l)[i]? = some (match r with | .own es sz => .row 1 es sz false | .box cs _ => .box 1 (cs.map .val) true | _ => .gone 0)
  | [], i, r, h => by simp at h
  | a :: l, 0, r, h => by
    simp only [List.getElem?_cons_zero, Option.some.injEq] at h
    subst h
    cases a <;> simp [argTab]
  | a :: l, i + 1, r, h => by
    have := argTab_get (show l[i]? = some r by simpa using h)
    cases a <;> simpa [argTab] using this

theorem argTab_len : ∀ {l : List RV}, (argTab l).length = l.length
  | [] => rfl
  | a :: l => by cases a <;> simp [argTab, argTab_len]

/-- the table at a call's head -/
theorem entry_tget {args : List RV} {n d : Nat} (h : (tget (argTab args ++ List.replicate n (.gone 0)) d) ≠ .gone 0) :
    (∃ es sz, args[d]? = some (.own es sz) ∧ tget (argTab args ++ List.replicate n (.gone 0)) d = .row 1 es sz false) ∨
    (∃ cs off, args[d]? = some (.box cs off) ∧ tget (argTab args ++ List.replicate n (.gone 0)) d = .box 1 (cs.map .val) true) := by
  have key : ∀ x, (argTab args ++ List.replicate n (.gone 0))[d]? = some x → tget (argTab args ++ List.replicate n (.gone 0)) d = x := fun x hx => by simp [tget, List.getD_eq_getElem?_getD, hx]
  rcases Nat.lt_or_ge d args.length with hlt | hge
  · have hr := List.getElem?_eq_getElem hlt
    have ht := argTab_get hr
    have ht' : (argTab args ++ List.replicate n (.gone 0))[d]? = _ := (List.getElem?_append_left (by rw [argTab_len]; exact hlt)).trans ht
    generalize args[d] = r at *
    cases r with
    | own es sz => exact .inl ⟨es, sz, hr, key _ ht'⟩
    | box cs off => exact .inr ⟨cs, off, hr, key _ ht'⟩
    | _ => exact absurd (key _ ht') h
  · exfalso
    apply h
    have : (argTab args ++ List.replicate n (.gone 0))[d]? = some (.gone 0) ∨ (argTab args ++ List.replicate n (.gone 0))[d]? = none := by
      rw [List.getElem?_append_right (by rw [argTab_len]; exact hge)]
      rw [List.getElem?_replicate]
      split
      · exact .inl rfl
      · exact .inr rfl
    rcases this with h | h
    · exact key _ h
    · simp [tget, List.getD_eq_getElem?_getD, h]

def placeAt (pl : List (Option Place)) (d : Nat) : Option Place := (pl[d]?).join

def entryGh (gh : Gh) (pl : List (Option Place)) : Gh :=
  ⟨gh.μ, gh.G, fun d => ((placeAt pl d).getD (0, 0, 0)).1, fun d => ((placeAt pl d).getD (0, 0, 0)).2.1, fun d => ((placeAt pl d).getD (0, 0, 0)).2.2⟩

def entryEn (gh : Gh) (H : Hp) (w : World) (pl : List (Option Place)) : En :=
  ⟨w.heap.size, w, H, gh.μ, gh.G, Lof pl, placeAt pl⟩

theorem entry_mem {args : List RV} {vals : List Value} {pl : List (Option Place)} (hE : Enter gh H w args vals pl) (n : Nat) :
    Mem (entryEn gh H w pl) (entryGh gh pl) (argTab args ++ List.replicate n (.gone 0)) H w ∧
    (∀ d, (tget (argTab args ++ List.replicate n (.gone 0)) d).active = true → ∃ p, pl[d]? = some (some p)) := by
  have placed : ∀ d, (tget (argTab args ++ List.replicate n (.gone 0)) d).active = true → ∃ r v p, args[d]? = some r ∧ vals[d]? = some v ∧ pl[d]? = some (some p) ∧ ARel gh H.next w r v (some p) := fun d hd => by
    have hne : tget (argTab args ++ List.replicate n (.gone 0)) d ≠ .gone 0 := fun e => by rw [e] at hd; cases hd
    have get : ∀ r, args[d]? = some r → isOwned r = true → ∃ r v p, args[d]? = some r ∧ vals[d]? = some v ∧ pl[d]? = some (some p) ∧ ARel gh H.next w r v (some p) := fun r hr ho => by
      have hlt := (List.getElem?_eq_some_iff.1 hr).1
      obtain ⟨v, hv⟩ : ∃ v, vals[d]? = some v := ⟨_, List.getElem?_eq_getElem (show d < vals.length by rw [hE.len]; exact hlt)⟩
      obtain ⟨p, hp⟩ : ∃ p, pl[d]? = some p := ⟨_, List.getElem?_eq_getElem (show d < pl.length by rw [hE.lenp]; exact hlt)⟩
      have hA := hE.rel d r _ _ hr hv hp
      cases p with
      | none => cases hA <;> cases ho
      | some p => exact ⟨r, _, p, hr, hv, hp, hA⟩
    rcases entry_tget hne with ⟨es, sz, h1, _⟩ | ⟨cs, off, h1, _⟩
    · exact get _ h1 rfl
    · exact get _ h1 rfl
  have pa : ∀ d p, pl[d]? = some (some p) → placeAt pl d = some p := fun d p h => by simp [placeAt, h]
  refine ⟨⟨fun d => ?_, fun d d' hne h1 h2 => ?_, hE.objs.G0, hE.objs.at_, hE.objs.lt, hE.objs.inj, fun d o hd ho => ?_, Nat.le_refl _, fun _ _ _ _ => rfl, fun _ _ _ => rfl, fun _ _ => rfl, Nat.le_refl _, fun _ _ h => h,
    fun o ho hl => ?_, fun d b o s he => ?_, Still.refl _⟩, fun d hd => by obtain ⟨_, _, p, _, _, h, _⟩ := placed d hd; exact ⟨p, h⟩⟩
  · by_cases hne : tget (argTab args ++ List.replicate n (.gone 0)) d = .gone 0
    · rw [hne]; trivial
    · have hact : (tget (argTab args ++ List.replicate n (.gone 0)) d).active = true := by
        rcases entry_tget hne with ⟨_, _, _, h⟩ | ⟨_, _, _, h⟩ <;> rw [h] <;> rfl
      obtain ⟨r, v, ⟨b, o, s⟩, a1, a2, a3, a4⟩ := placed d hact
      have hp := pa d _ a3
      obtain ⟨g0, _⟩ := hE.own d b o s a3
      rcases entry_tget hne with ⟨es, sz, h1, h2⟩ | ⟨cs, off, h1, h2⟩
      · rw [a1] at h1; simp only [Option.some.injEq] at h1; subst h1
        rw [h2]
        cases a4 with
        | own _ n sz _ _ _ b' o' cap hl h hn ha =>
          obtain ⟨hpos, c, ty, c1, c2, c3, c4, c5⟩ := h
          simp only [TabAt, entryGh, hp, Option.getD_some]
          exact ⟨c, ty, c1, c2, by rw [c2]; exact c3, c4, c5, .inr ⟨d, o, s, a3⟩, fun _ => g0, by rw [g0]; exact Nat.zero_le _, hpos⟩
      · rw [a1] at h1; simp only [Option.some.injEq] at h1; subst h1
        rw [h2]
        cases a4 with
        | box _ _ _ _ h =>
          obtain ⟨c, ty, c1, c2, c3⟩ := h
          simp only [TabAt, entryGh, hp, Option.getD_some]
          refine ⟨c, ty, c1, by simpa using c2, fun i x u hx hu => ?_, .inr ⟨d, _, s, a3⟩, fun _ => g0⟩
          simp only [List.getElem?_map, Option.map_eq_some_iff] at hx
          obtain ⟨y, hy, rfl⟩ := hx
          exact .val _ _ (c3 i y u hy hu)
  · obtain ⟨_, _, ⟨b, o, s⟩, _, _, q1, _⟩ := placed d h1
    obtain ⟨_, _, ⟨b', o', s'⟩, _, _, q2, _⟩ := placed d' h2
    simp only [entryGh, pa d _ q1, pa d' _ q2, Option.getD_some]
    exact hE.apart d d' _ _ _ _ _ _ hne q1 q2
  · obtain ⟨_, _, ⟨b, o', s⟩, _, _, q1, _⟩ := placed d hd
    simp only [entryGh, pa d _ q1, Option.getD_some]
    exact ((hE.own d b o' s q1).2 o ho).symm
  · exact absurd (hE.objs.lt o hl).1 (by simpa [entryEn] using ho)
  · have hpl : pl[d]? = some (some (b, o, s)) := by
      simp only [entryEn, placeAt] at he
      cases hx : pl[d]? with
      | none => rw [hx] at he; cases he
      | some x => rw [hx] at he; simp at he; rw [he]
    have hlt := (List.getElem?_eq_some_iff.1 hpl).1
    rw [hE.lenp] at hlt
    obtain ⟨r, hr⟩ : ∃ r, args[d]? = some r := ⟨_, List.getElem?_eq_getElem hlt⟩
    obtain ⟨v, hv⟩ : ∃ v, vals[d]? = some v := ⟨_, List.getElem?_eq_getElem (show d < vals.length by rw [hE.len]; exact hlt)⟩
    have hA := hE.rel d _ _ _ hr hv hpl
    have ht := argTab_get hr
    have ht' : (argTab args ++ List.replicate n (.gone 0))[d]? = _ := (List.getElem?_append_left (by rw [argTab_len]; exact hlt)).trans ht
    have key : ∀ x, (argTab args ++ List.replicate n (.gone 0))[d]? = some x → tget (argTab args ++ List.replicate n (.gone 0)) d = x := fun x hx => by simp [tget, List.getD_eq_getElem?_getD, hx]
    have hg : (tget (argTab args ++ List.replicate n (.gone 0)) d).gen = 1 := by
      cases hA <;> rw [key _ ht'] <;> rfl
    refine ⟨by rw [hg]; exact Nat.le_refl _, fun _ _ => ?_⟩
    simp only [entryGh, pa d _ hpl, Option.getD_some]
    exact ⟨trivial, trivial, trivial⟩

theorem entry_slots {args : List RV} {vals : List Value} {pl : List (Option Place)} (hE : Enter gh H w args vals pl) (hok : args.all okArg = true) (n m : Nat) (hn : n = m) :
    SsRel (entryGh gh pl) (argTab args ++ List.replicate m (.gone 0)) H.next w (argSlots 0 args ++ List.replicate n (.val .undef)) (vals ++ List.replicate n undef) := by
  refine ⟨by simp [argSlots_len, hE.len], fun i x v hx hv => ?_⟩
  rcases Nat.lt_or_ge i args.length with hlt | hge
  · rw [List.getElem?_append_left (by rw [argSlots_len]; exact hlt)] at hx
    rw [List.getElem?_append_left (by rw [hE.len]; exact hlt)] at hv
    obtain ⟨r, hr⟩ : ∃ r, args[i]? = some r := ⟨_, List.getElem?_eq_getElem hlt⟩
    obtain ⟨p, hp⟩ : ∃ p, pl[i]? = some p := ⟨_, List.getElem?_eq_getElem (show i < pl.length by rw [hE.lenp]; exact hlt)⟩
    have hA := hE.rel i _ _ _ hr hv hp
    rw [argSlots_get hr] at hx
    have ht := argTab_get hr
    have ht' : (argTab args ++ List.replicate m (.gone 0))[i]? = _ := (List.getElem?_append_left (by rw [argTab_len]; exact hlt)).trans ht
    have key : ∀ x, (argTab args ++ List.replicate m (.gone 0))[i]? = some x → tget (argTab args ++ List.replicate m (.gone 0)) i = x := fun x hx => by simp [tget, List.getD_eq_getElem?_getD, hx]
    simp only [Option.some.injEq, Nat.zero_add] at hx
    subst hx
    have hoa := List.all_eq_true.1 hok _ (List.mem_of_getElem? hr)
    have hpi : ∀ q, p = some q → placeAt pl i = some q := fun q hq => by rw [hq] at hp; simp [placeAt, hp]
    cases hA with
    | val u x h => exact .val _ _ h
    | full es a n h => exact .full _ _ _ h
    | own es n' sz b o s b' o' cap hl h hn' ha =>
      subst hl
      have hpp := hpi _ rfl
      refine .own _ _ _ _ _ _ _ _ (by rw [key _ ht']; exact Nat.le_refl _) hn' fun es' lk he => ?_
      simp only [entryGh, hpp, Option.getD_some]
      rcases ha with ⟨a1, a2, a3⟩ | ha
      · exact .inl ⟨a1, by omega, by rw [Nat.zero_add]; exact a3⟩
      · exact .inr ha
    | box cs off b s h =>
      have hpp := hpi _ rfl
      refine .loc _ _ _ _ _ (by rw [key _ ht']; exact Nat.le_refl _) fun cs' wr he => ?_
      simp only [entryGh, hpp, Option.getD_some]
      exact ⟨trivial, trivial⟩
  · rw [List.getElem?_append_right (by rw [argSlots_len]; exact hge), List.getElem?_replicate] at hx
    rw [List.getElem?_append_right (by rw [hE.len]; exact hge), List.getElem?_replicate] at hv
    split at hx
    · split at hv
      · simp only [Option.some.injEq] at hx hv
        subst hx; subst hv
        exact .val _ _ .undef
      · simp at hv
    · simp at hx

end
end Go.Vi

/-
  The interpreter's answer is the machine's.
-/
namespace Go.Vi
set_option linter.unusedVariables false
set_option linter.unusedSimpArgs false

/-- an answer is right -/
def AnsOk (P : Program) (mode : FuncId → Nat → Nat) (f : FuncId) (args : List RV) (H : Hp) (rs bs : List RV) (H' : Hp) : Prop :=
  (∃ fn, P.funcs[f]? = some fn ∧ fn.body.isSome ∧ (fn.name == "runtime.NumGoroutine") = false) ∧
    ∀ gh w vals pl, Enter gh H w args vals pl → Calls P f vals.toArray w fun e w' => ∃ v gh', e = .returned v ∧ Post (mode f) gh H w args pl rs bs H' v gh' w'

def ExtOk (P : Program) (pol : Pol) : Prop :=
  ∀ f g args H rs bs, pol.ext f = some g → g args H = some (rs, bs) → AnsOk P pol.mode f args H rs bs H

section
variable {P : Program}

theorem Given.keys {E : En} {H : Hp} {w : World} {gh gh' : Gh} {tab tab' : List TC} {ks : List Nat} (K : Given E H w gh tab gh' tab' ks) : ∀ d, d ∈ ks → (tget tab d).active = true ∧ (tget tab' d).active = false ∧ gh'.G (gh.β d) = 0 :=
  fun d hd => ⟨(K.gone d hd).1, (K.gone d hd).2, K.Gk d hd⟩

theorem nodup_map_on {f : Nat → Nat} : ∀ {l : List Nat}, l.Nodup → (∀ a b, a ∈ l → b ∈ l → a ≠ b → f a ≠ f b) → (l.map f).Nodup
  | [], _, _ => .nil
  | a :: l, h, hf => by
    obtain ⟨h1, h2⟩ := List.nodup_cons.1 h
    rw [List.map_cons, List.nodup_cons]
    refine ⟨fun hm => ?_, nodup_map_on h2 fun x y hx hy => hf x y (List.mem_cons_of_mem _ hx) (List.mem_cons_of_mem _ hy)⟩
    obtain ⟨b, hb, he⟩ := List.mem_map.1 hm
    exact hf b a (List.mem_cons_of_mem _ hb) (by simp) (fun e => h1 (by rw [← e]; exact hb)) he

/-- from the end of a body to the end of the call -/
theorem call_end {gh : Gh} {H H' : Hp} {w w' : World} {args : List RV} {vals : List Value} {pl : List (Option Place)} (hE : Enter gh H w args vals pl) {mode : Nat → Nat} {fn : Func} {fr : Fr} {a' : Act} {rs bs : List RV} {tab tab' : List TC}
    (S : Sim (entryEn gh H w pl) fr H' a' w') {z : Bool} (hr : resultsV P z fn fr = some (rs, tab)) (hb : backs mode tab 0 args = some (bs, tab')) (hl : lentOk mode tab' 0 args = true) :
    a'.defers = [] ∧ ∃ v, (results fn a'.tmps).run P w' = .ok v w' ∧ ∃ gh', Post mode gh H w args pl rs bs H' v gh' w' := by
  obtain ⟨gh0, M, SS, D⟩ := S
  refine ⟨D, ?_⟩
  unfold resultsV at hr
  split at hr
  · rename_i l hl1
    obtain ⟨slots, tab0⟩ := fr
    obtain ⟨vl, e1, e2⟩ := results_run M SS hl1
    refine ⟨_, e1, ?_⟩
    have hru : ∃ gh' ks rp, Given (entryEn gh H w pl) H' w' gh0 tab0 gh' tab ks ∧ RsRel gh' H'.next w' rs vl rp ∧ rp.map (·.1) = ks.map gh0.β := by
      cases z with
      | true =>
        rw [if_pos rfl, Option.map_eq_some_iff] at hr
        obtain ⟨⟨us, t⟩, h2, he⟩ := hr
        simp only [Prod.mk.injEq] at he
        obtain ⟨rfl, rfl⟩ := he
        exact frz_run M e2 h2
      | false => exact retsV_run M e2 (by simpa using hr)
    obtain ⟨gh1, ks, rp, K, hrr, hrp⟩ := hru
    -- what was lent
    have hat : ∀ (args : List RV) (vals : List Value) (pl' : List (Option Place)) (k : Nat), vals.length = args.length → pl'.length = args.length → (∀ (i : Nat) (r : RV) (v : Value) (p : Option Place), args[i]? = some r → vals[i]? = some v → pl'[i]? = some p → ARel gh H.next w r v p) →
        (∀ (i : Nat) (p : Option Place), pl'[i]? = some p → pl[k + i]? = some p) → lentAt (entryEn gh H w pl) mode k args pl' := by
      intro args
      induction args with
      | nil => intro vals pl' k h1 h2 _ _; cases pl' with
        | nil => trivial
        | cons _ _ => simp at h2
      | cons r args ih =>
        intro vals pl' k h1 h2 h3 h4
        cases vals with
        | nil => simp at h1
        | cons v vals =>
          cases pl' with
          | nil => simp at h2
          | cons p pl' =>
            refine ⟨fun hc => ?_, ih vals pl' (k + 1) (by simpa using h1) (by simpa using h2) (fun i r v p a b c => h3 (i + 1) r v p (by simpa using a) (by simpa using b) (by simpa using c)) (fun i p hp => by
              have := h4 (i + 1) p (by simpa using hp)
              rw [show k + 1 + i = k + (i + 1) by omega]; exact this)⟩
            have hA := h3 0 r v p rfl rfl rfl
            have hp := h4 0 p rfl
            cases p with
            | none => cases hA <;> cases hc.2
            | some q => exact ⟨q, rfl, by simp only [entryEn, placeAt]; simp only [Nat.add_zero] at hp; rw [hp]; rfl⟩
    have hat' := hat args vals pl 0 hE.len hE.lenp hE.rel (fun i p hp => by rw [Nat.zero_add]; exact hp)
    obtain ⟨gh2, K2, b1, b2, b3, b4⟩ := backs_run K.mem hat' hb hl
    have M2 := K2.mem
    have e := K.same
    have f := K2.same
    have hβ : gh2.β = gh0.β := f.2.1.trans e.2.1
    -- keys of all that leaves
    have hks : ∀ d, d ∈ ks → (tget tab0 d).active = true ∧ (tget tab' d).active = false ∧ gh2.G (gh0.β d) = 0 := fun d hd => by
      obtain ⟨q1, q2, q3⟩ := K.keys d hd
      refine ⟨q1, by rw [(K2.act d).1]; exact q2, ?_⟩
      rw [K2.G _ (fun k hk => ?_)]
      · exact q3
      · rw [e.2.1]
        have hne : k ≠ d := fun he => by subst he; rw [q2] at hk; cases hk
        exact M.apart k d hne (K.act hk) q1
    have hlk : ∀ d, d ∈ lentKeys mode 0 args → (tget tab0 d).active = true ∧ (tget tab' d).active = true ∧ gh2.G (gh0.β d) = 0 := fun d hd => by
      obtain ⟨q1, q2⟩ := b3 d hd
      rw [e.2.1] at q2
      exact ⟨K.act (by rw [← (K2.act d).1]; exact q1), q1, q2⟩
    have hall : (rp ++ lentPl mode 0 args pl).map (·.1) = (ks ++ lentKeys mode 0 args).map gh0.β := by
      rw [List.map_append, List.map_append, hrp, b2, e.2.1]
    have hact : ∀ d, d ∈ ks ++ lentKeys mode 0 args → (tget tab0 d).active = true ∧ gh2.G (gh0.β d) = 0 := fun d hd => by
      rw [List.mem_append] at hd
      rcases hd with hd | hd
      · exact ⟨(hks d hd).1, (hks d hd).2.2⟩
      · exact ⟨(hlk d hd).1, (hlk d hd).2.2⟩
    have hnd : (ks ++ lentKeys mode 0 args).Nodup := by
      rw [List.nodup_append]
      refine ⟨K.nodup, lentKeys_nodup, fun x hx y hy exy => ?_⟩
      subst exy
      have := (hks x hx).2.1
      rw [(hlk x hy).2.1] at this; cases this
    have hrr2 : RsRel gh2 H'.next w' rs vl rp := by
      clear b4 hall hrp hr e1 e2 hl1
      induction hrr with
      | nil => exact .nil
      | cons r v p rs vs pl h hr ih => exact .cons r v p rs vs pl (h.goes K2.goes) ih
    refine ⟨gh2, ⟨M2.objs, M2.size, fun b h1 h2 h3 => M2.old b h1 h2 h3, fun b h1 h2 => M2.oldG b h1 h2, fun o ho => M2.μ0 o ho, M2.next, M2.live, M2.newObj, M2.still⟩, ⟨vl, rp, hrr2, rfl, ?_, fun p hp => ?_⟩, b1, b4⟩
    · rw [hall]
      exact nodup_map_on hnd fun a b ha hb hne => M.apart a b hne (hact a ha).1 (hact b hb).1
    · have : p.1 ∈ (ks ++ lentKeys mode 0 args).map gh0.β := by rw [← hall]; exact List.mem_map_of_mem hp
      obtain ⟨d, hd, he⟩ := List.mem_map.1 this
      obtain ⟨q1, q2⟩ := hact d hd
      rw [← he]
      refine ⟨q2, M.own q1, M.lt q1, fun o ho => ?_⟩
      rw [f.1, e.1]
      exact (M.objApart d o q1 ho).symm
  · simp at hr

theorem callV_ok {pol : Pol} (hm : P.follows .mixedOrders = true) (hd : ∀ keys call, DrawnOk P pol keys call) (hst : ∀ f fn c, P.funcs[f]? = some fn → fn.body = some c → pol.dyn f = true ∨ staticOk c = true) (hext : ExtOk P pol) : ∀ k, CallOk P pol (callV P pol k) := by
  intro k
  refine ⟨?_, fun f args H rs bs H' he h => ?_⟩
  case refine_2 =>
    cases k with
    | zero => simp [callV] at h
    | succ k =>
      obtain ⟨g, hg⟩ := Option.isSome_iff_exists.1 he
      simp only [callV, hg] at h
      rw [Option.map_eq_some_iff] at h
      obtain ⟨⟨r, b⟩, h1, h2⟩ := h
      simp only [Prod.mk.injEq] at h2
      exact h2.2.2.symm
  induction k with
  | zero => intro f args H rs bs H' h; simp [callV] at h
  | succ k ih0 =>
    have ih : CallOk P pol (callV P pol k) := ⟨ih0, fun f args H rs bs H' he h => by
      cases k with
      | zero => simp [callV] at h
      | succ k =>
        obtain ⟨g, hg⟩ := Option.isSome_iff_exists.1 he
        simp only [callV, hg] at h
        rw [Option.map_eq_some_iff] at h
        obtain ⟨⟨r, b⟩, h1, h2⟩ := h
        simp only [Prod.mk.injEq] at h2
        exact h2.2.2.symm⟩
    intro f args H rs bs H' h
    simp only [callV] at h
    split at h
    · rename_i g hg
      rw [Option.map_eq_some_iff] at h
      obtain ⟨⟨r, b⟩, h1, h2⟩ := h
      simp only [Prod.mk.injEq] at h2
      obtain ⟨rfl, rfl, rfl⟩ := h2
      exact hext f g args _ r b hg h1
    · split at h
      · simp at h
      · rename_i fn hf
        split at h
        · simp at h
        · rename_i c hc
          split at h
          · simp at h
          · rename_i hcond
            simp only [Bool.or_eq_true, decide_eq_true_eq, Bool.not_eq_true', not_or, Bool.not_eq_false] at hcond
            obtain ⟨⟨hname, hnt⟩, hokA⟩ := hcond
            refine ⟨⟨fn, hf, by rw [hc]; rfl, by simpa using hname⟩, fun gh w vals pl hE => ?_⟩
            refine calls_of_wp hf hc ?_
            have hlen := hE.len
            have S : Sim (entryEn gh H w pl) ⟨argSlots 0 args ++ List.replicate (fn.ntmps - args.length) (.val .undef), argTab args ++ List.replicate (fn.ntmps - args.length) (.gone 0)⟩ H
                { tmps := vals.toArray ++ Array.replicate (fn.ntmps - vals.toArray.size) undef, defers := [] } w := by
              refine ⟨entryGh gh pl, (entry_mem hE _).1, ?_, rfl⟩
              have := entry_slots hE hokA (fn.ntmps - args.length) (fn.ntmps - args.length) rfl
              simpa [hlen] using this
            split at h
            · rename_i fr Hx hex
              split at h
              · rename_i r tab hres
                split at h
                · rename_i b tab' hb
                  split at h
                  · rename_i hl
                    simp only [Option.some.injEq, Prod.mk.injEq] at h
                    obtain ⟨rfl, rfl, rfl⟩ := h
                    refine execV_run ih hm (hd _ _) c (hst f fn c hf hc) hex S fun a' w' S' => ?_
                    obtain ⟨q1, v, q2, gh', q3⟩ := call_end hE S' hres hb hl
                    exact ⟨q1, v, q2, v, gh', rfl, q3⟩
                  · simp at h
                · simp at h
              · simp at h
            · rename_i fr Hx hex
              split at h
              · rename_i r tab hres
                split at h
                · rename_i b tab' hb
                  split at h
                  · rename_i hl
                    simp only [Option.some.injEq, Prod.mk.injEq] at h
                    obtain ⟨rfl, rfl, rfl⟩ := h
                    refine execV_run ih hm (hd _ _) c (hst f fn c hf hc) hex S fun a' w' S' => ?_
                    obtain ⟨q1, v, q2, gh', q3⟩ := call_end hE S' hres hb hl
                    exact ⟨q1, v, q2, v, gh', rfl, q3⟩
                  · simp at h
                · simp at h
              · simp at h
            · simp at h

end
end Go.Vi

/-
  An operation hangs on its footprint alone.
-/
namespace Go.Vi
set_option linter.unusedVariables false
set_option linter.unusedSimpArgs false

structure Agree (K : List Nat) (t t2 : List TC) : Prop where
  len : t2.length = t.length
  at_ : ∀ d, d ∈ K → tget t2 d = tget t d

structure Rest (W : List Nat) (t t' : List TC) : Prop where
  len : t'.length = t.length
  at_ : ∀ d, d ∉ W → tget t' d = tget t d

theorem tget_set (t : List TC) (d e : Nat) (x : TC) : tget (t.set d x) e = if e = d ∧ d < t.length then x else tget t e := by
  by_cases he : e = d
  · subst he
    by_cases h : e < t.length
    · rw [if_pos ⟨rfl, h⟩, tget_set_same h]
    · rw [if_neg (fun h' => h h'.2)]
      rw [List.set_eq_of_length_le (by omega)]
  · rw [if_neg (fun h' => he h'.1), tget_set_ne he]

theorem Agree.set {K : List Nat} {t t2 : List TC} (A : Agree K t t2) (d : Nat) (x : TC) : Agree K (t.set d x) (t2.set d x) :=
  ⟨by simp [A.len], fun e he => by rw [tget_set, tget_set, A.len, A.at_ e he]⟩

theorem Rest.set {W : List Nat} {t : List TC} {d : Nat} (x : TC) (hd : d ∈ W) : Rest W t (t.set d x) :=
  ⟨by simp, fun e he => tget_set_ne (fun h => he (h ▸ hd))⟩

theorem Rest.refl {W : List Nat} {t : List TC} : Rest W t t := ⟨rfl, fun _ _ => rfl⟩
theorem Rest.trans {W : List Nat} {t t1 t2 : List TC} (h : Rest W t t1) (h' : Rest W t1 t2) : Rest W t t2 := ⟨h'.len.trans h.len, fun d hd => (h'.at_ d hd).trans (h.at_ d hd)⟩

variable {α β : Type}

/-- a function of the table reads K and writes W -/
def Loc (K W : List Nat) (t : List TC) (f : List TC → Option (α × List TC)) : Prop :=
  ∀ t2 a t', Agree K t t2 → f t = some (a, t') → ∃ t2', f t2 = some (a, t2') ∧ Agree K t' t2' ∧ Rest W t t' ∧ Rest W t2 t2'

section
variable {K W : List Nat}

theorem outT1_loc (hWK : ∀ d, d ∈ W → d ∈ K) {t : List TC} {v : SV} (hk : ∀ d, d ∈ keyOf1 v → d ∈ W) : Loc K W t (fun t => outT1 t v) := by
  intro t2 a t' A h
  cases v with
  | own d g off n s =>
    have hd : d ∈ W := hk d (by simp [keyOf1])
    have e := A.at_ d (hWK d hd)
    simp only [outT1, e] at h ⊢
    split at h
    · rename_i g' es sz lk hr
      split at h
      · rename_i hc
        simp only [Option.some.injEq, Prod.mk.injEq] at h
        obtain ⟨rfl, rfl⟩ := h
        simp only [if_pos hc]
        exact ⟨_, rfl, A.set _ _, Rest.set _ hd, Rest.set _ hd⟩
      · simp at h
    · simp at h
  | lsl d g off n sz ag =>
    have hd : d ∈ W := hk d (by simp [keyOf1])
    have e := A.at_ d (hWK d hd)
    simp only [outT1, e] at h ⊢
    split at h
    · rename_i g' cs wr hr
      split at h
      · rename_i hc
        split at h
        · rename_i vs hvs
          split at h
          · rename_i hag
            simp only [Option.some.injEq, Prod.mk.injEq] at h
            obtain ⟨rfl, rfl⟩ := h
            simp only [if_pos hc, hvs, if_pos hag]
            exact ⟨_, rfl, A.set _ _, Rest.set _ hd, Rest.set _ hd⟩
          · rename_i hag
            split at h
            · rename_i hone
              simp only [Option.some.injEq, Prod.mk.injEq] at h
              obtain ⟨rfl, rfl⟩ := h
              simp only [if_pos hc, hvs, if_neg hag, if_pos hone]
              exact ⟨_, rfl, A.set _ _, Rest.set _ hd, Rest.set _ hd⟩
            · simp at h
        · simp at h
      · simp at h
    · simp at h
  | loc d g off =>
    have hd : d ∈ W := hk d (by simp [keyOf1])
    have e := A.at_ d (hWK d hd)
    simp only [outT1, e] at h ⊢
    split at h
    · rename_i g' cs wr hr
      split at h
      · rename_i hc
        split at h
        · rename_i vs hvs
          simp only [Option.some.injEq, Prod.mk.injEq] at h
          obtain ⟨rfl, rfl⟩ := h
          simp only [if_pos hc, hvs]
          exact ⟨_, rfl, A.set _ _, Rest.set _ hd, Rest.set _ hd⟩
        · simp at h
      · simp at h
    · simp at h
  | rel d g i off s =>
    have hd : d ∈ W := hk d (by simp [keyOf1])
    have e := A.at_ d (hWK d hd)
    simp only [outT1, e] at h ⊢
    split at h
    · rename_i g' es sz lk hr
      split at h
      · rename_i hc
        simp only [Option.some.injEq, Prod.mk.injEq] at h
        obtain ⟨rfl, rfl⟩ := h
        simp only [if_pos hc]
        exact ⟨_, rfl, A.set _ _, Rest.set _ hd, Rest.set _ hd⟩
      · simp at h
    · simp at h
  | _ =>
    simp only [outT1, Option.map_eq_some_iff] at h ⊢
    obtain ⟨u, hu, he⟩ := h
    simp only [Prod.mk.injEq] at he
    obtain ⟨rfl, rfl⟩ := he
    exact ⟨t2, by simp [hu], A, Rest.refl, Rest.refl⟩

theorem nst {v : SV} (h : ∀ cs, v ≠ .st cs) : keyOf v = keyOf1 v ∧ ∀ t, outT t v = outT1 t v := by
  cases v <;> first | exact ⟨rfl, fun _ => rfl⟩ | exact absurd rfl (h _)

theorem outAll1_loc (hWK : ∀ d, d ∈ W → d ∈ K) : ∀ {l : List SV} {t : List TC}, (∀ d, d ∈ l.flatMap keyOf1 → d ∈ W) → Loc K W t (fun t => outAll1 t l)
  | [], t, _ => fun t2 a t' A h => by
    simp [outAll1] at h
    obtain ⟨rfl, rfl⟩ := h
    exact ⟨t2, rfl, A, Rest.refl, Rest.refl⟩
  | v :: l, t, hk => by
    intro t2 a t' A h
    simp only [outAll1] at h
    split at h
    · rename_i u t1 h1
      split at h
      · rename_i us t3 h2
        simp only [Option.some.injEq, Prod.mk.injEq] at h
        obtain ⟨rfl, rfl⟩ := h
        obtain ⟨t2', e1, A1, r1, r2⟩ := outT1_loc hWK (t := t) (v := v) (fun d hd => hk d (by rw [List.flatMap_cons]; exact List.mem_append_left _ hd)) t2 u t1 A h1
        obtain ⟨t2'', e2, A2, r3, r4⟩ := outAll1_loc hWK (l := l) (t := t1) (fun d hd => hk d (by rw [List.flatMap_cons]; exact List.mem_append_right _ hd)) t2' us t3 A1 h2
        simp only at e1 e2
        exact ⟨t2'', by simp only [outAll1, e1, e2], A2, r1.trans r3, r2.trans r4⟩
      · simp at h
    · simp at h

theorem outT_loc (hWK : ∀ d, d ∈ W → d ∈ K) {t : List TC} {v : SV} (hk : ∀ d, d ∈ keyOf v → d ∈ W) : Loc K W t (fun t => outT t v) := by
  by_cases hst : ∃ cs, v = .st cs
  · obtain ⟨cs, rfl⟩ := hst
    intro t2 b t' A h
    simp only [outT, Option.map_eq_some_iff] at h
    obtain ⟨⟨a, t1⟩, h1, h2⟩ := h
    simp only [Prod.mk.injEq] at h2
    obtain ⟨rfl, rfl⟩ := h2
    obtain ⟨t2', e1, A1, r1, r2⟩ := outAll1_loc hWK (l := cs) hk t2 a t1 A h1
    exact ⟨t2', by simp only at e1; simp [outT, e1], A1, r1, r2⟩
  · have hn := nst (v := v) (fun cs e => hst ⟨cs, e⟩)
    intro t2 b t' A h
    rw [hn.1] at hk
    simp only [hn.2] at h ⊢
    exact outT1_loc hWK hk t2 b t' A h

theorem outAll_loc (hWK : ∀ d, d ∈ W → d ∈ K) : ∀ {l : List SV} {t : List TC}, (∀ d, d ∈ l.flatMap keyOf → d ∈ W) → Loc K W t (fun t => outAll t l)
  | [], t, _ => fun t2 a t' A h => by
    simp [outAll] at h
    obtain ⟨rfl, rfl⟩ := h
    exact ⟨t2, rfl, A, Rest.refl, Rest.refl⟩
  | v :: l, t, hk => by
    intro t2 a t' A h
    simp only [outAll] at h
    split at h
    · rename_i u t1 h1
      split at h
      · rename_i us t3 h2
        simp only [Option.some.injEq, Prod.mk.injEq] at h
        obtain ⟨rfl, rfl⟩ := h
        obtain ⟨t2', e1, A1, r1, r2⟩ := outT_loc hWK (t := t) (v := v) (fun d hd => hk d (by rw [List.flatMap_cons]; exact List.mem_append_left _ hd)) t2 u t1 A h1
        obtain ⟨t2'', e2, A2, r3, r4⟩ := outAll_loc hWK (l := l) (t := t1) (fun d hd => hk d (by rw [List.flatMap_cons]; exact List.mem_append_right _ hd)) t2' us t3 A1 h2
        simp only at e1 e2
        exact ⟨t2'', by simp only [outAll, e1, e2], A2, r1.trans r3, r2.trans r4⟩
      · simp at h
    · simp at h

/-- variables hold what they held -/
def Keeps (t t' : List TC) : Prop := ∀ d g cs wr, tget t' d = .box g cs wr → ∃ wr0, tget t d = .box g cs wr0

theorem Keeps.refl {t : List TC} : Keeps t t := fun _ _ _ wr h => ⟨wr, h⟩
theorem Keeps.trans {t t1 t2 : List TC} (h : Keeps t t1) (h' : Keeps t1 t2) : Keeps t t2 := fun d g cs wr h2 => by
  obtain ⟨w1, h1⟩ := h' d g cs wr h2
  exact h d g cs w1 h1
theorem Keeps.set {t : List TC} {d : Nat} {x : TC} (h : ∀ g cs wr, x = .box g cs wr → ∃ wr0, tget t d = .box g cs wr0) : Keeps t (t.set d x) := fun e g cs wr he => by
  rw [tget_set] at he
  split at he
  · rename_i hc
    rw [hc.1]; exact h g cs wr he
  · exact ⟨wr, he⟩

theorem outT1_keeps {t t' : List TC} {v : SV} {u : VV} (h : outT1 t v = some (u, t')) : Keeps t t' := by
  unfold outT1 at h
  split at h
  · split at h
    · split at h
      · simp only [Option.some.injEq, Prod.mk.injEq] at h
        obtain ⟨rfl, rfl⟩ := h
        exact Keeps.set fun _ _ _ e => by cases e
      · simp at h
    · simp at h
  · split at h
    · rename_i hr
      split at h
      · rename_i hc
        obtain ⟨rfl, _⟩ := hc
        split at h
        · split at h
          · simp only [Option.some.injEq, Prod.mk.injEq] at h
            obtain ⟨rfl, rfl⟩ := h
            exact Keeps.set fun _ _ _ e => by cases e; exact ⟨_, hr⟩
          · split at h
            · simp only [Option.some.injEq, Prod.mk.injEq] at h
              obtain ⟨rfl, rfl⟩ := h
              exact Keeps.set fun _ _ _ e => by cases e; exact ⟨_, hr⟩
            · simp at h
        · simp at h
      · simp at h
    · simp at h
  · split at h
    · rename_i hr
      split at h
      · rename_i hc
        subst hc
        split at h
        · simp only [Option.some.injEq, Prod.mk.injEq] at h
          obtain ⟨rfl, rfl⟩ := h
          exact Keeps.set fun _ _ _ e => by cases e; exact ⟨_, hr⟩
        · simp at h
      · simp at h
    · simp at h
  · split at h
    · split at h
      · simp only [Option.some.injEq, Prod.mk.injEq] at h
        obtain ⟨rfl, rfl⟩ := h
        exact Keeps.set fun _ _ _ e => by cases e
      · simp at h
    · simp at h
  · simp only [Option.map_eq_some_iff] at h
    obtain ⟨_, _, he⟩ := h
    simp only [Prod.mk.injEq] at he
    obtain ⟨rfl, rfl⟩ := he
    exact Keeps.refl

theorem outAll1_keeps : ∀ {l : List SV} {t t' : List TC} {us : List VV}, outAll1 t l = some (us, t') → Keeps t t'
  | [], t, t', us, h => by simp [outAll1] at h; obtain ⟨rfl, rfl⟩ := h; exact Keeps.refl
  | v :: l, t, t', us, h => by
    simp only [outAll1] at h
    split at h
    · rename_i h1
      split at h
      · rename_i h2
        simp only [Option.some.injEq, Prod.mk.injEq] at h
        obtain ⟨rfl, rfl⟩ := h
        exact (outT1_keeps h1).trans (outAll1_keeps h2)
      · simp at h
    · simp at h

theorem outT_keeps {t t' : List TC} {v : SV} {u : VV} (h : outT t v = some (u, t')) : Keeps t t' := by
  by_cases hst : ∃ cs, v = .st cs
  · obtain ⟨cs, rfl⟩ := hst
    simp only [outT, Option.map_eq_some_iff] at h
    obtain ⟨⟨a, b⟩, h1, h2⟩ := h
    simp only [Prod.mk.injEq] at h2
    obtain ⟨rfl, rfl⟩ := h2
    exact outAll1_keeps h1
  · rw [(nst (v := v) (fun cs e => hst ⟨cs, e⟩)).2] at h
    exact outT1_keeps h

theorem outAll_keeps : ∀ {l : List SV} {t t' : List TC} {us : List VV}, outAll t l = some (us, t') → Keeps t t'
  | [], t, t', us, h => by simp [outAll] at h; obtain ⟨rfl, rfl⟩ := h; exact Keeps.refl
  | v :: l, t, t', us, h => by
    simp only [outAll] at h
    split at h
    · rename_i h1
      split at h
      · rename_i h2
        simp only [Option.some.injEq, Prod.mk.injEq] at h
        obtain ⟨rfl, rfl⟩ := h
        exact (outT_keeps h1).trans (outAll_keeps h2)
      · simp at h
    · simp at h

end
end Go.Vi

/-
  A call, an append, ... hangs on its footprint alone.
-/
namespace Go.Vi
set_option linter.unusedVariables false
set_option linter.unusedSimpArgs false

section
variable {K W : List Nat}

theorem outArg_loc (hWK : ∀ d, d ∈ W → d ∈ K) {m : Nat} {t : List TC} {v : SV} (hk : ∀ d, d ∈ keyOf v → d ∈ W) (hdeep : ∀ d, d ∈ deepOf t v → d ∈ W) {t2 : List TC} {r : RV} {t' : List TC} {l : List Lent} (A : Agree K t t2) (h : outArg m t v = some (r, t', l)) :
    Keeps t t' ∧ (∀ e, e ∈ l → e.key ∈ W) ∧ ∃ t2', outArg m t2 v = some (r, t2', l) ∧ Agree K t' t2' ∧ Rest W t t' ∧ Rest W t2 t2' := by
  have plain : ∀ (f : List TC → Option (RV × List TC × List Lent)), (∀ t, f t = (outT t v).map fun (u, t) => (RV.val u, t, [])) → f t = some (r, t', l) →
      Keeps t t' ∧ (∀ e, e ∈ l → e.key ∈ W) ∧ ∃ t2', f t2 = some (r, t2', l) ∧ Agree K t' t2' ∧ Rest W t t' ∧ Rest W t2 t2' := by
    intro f hf h
    rw [hf, Option.map_eq_some_iff] at h
    obtain ⟨⟨u, t1⟩, h1, h2⟩ := h
    simp only [Prod.mk.injEq] at h2
    obtain ⟨rfl, rfl, rfl⟩ := h2
    obtain ⟨t2', e1, A1, r1, r2⟩ := outT_loc hWK hk t2 u t1 A h1
    exact ⟨outT_keeps h1, by simp, t2', by rw [hf]; simp only at e1; simp [e1], A1, r1, r2⟩
  by_cases h10 : m = 1 ∧ ∃ d g off n s, v = .own d g off n s
  · obtain ⟨rfl, d, g, off, n, s, rfl⟩ := h10
    have hd : d ∈ W := hk d (by simp [keyOf, keyOf1])
    have e := A.at_ d (hWK d hd)
    simp only [outArg, e] at h ⊢
    split at h
    · rename_i g' es sz hr
      split at h
      · rename_i hc
        simp only [Option.some.injEq, Prod.mk.injEq] at h
        obtain ⟨rfl, rfl, rfl⟩ := h
        simp only [if_pos hc]
        exact ⟨Keeps.set (fun _ _ _ e => by cases e), by simp, _, rfl, A.set _ _, Rest.set _ hd, Rest.set _ hd⟩
      · simp at h
    · simp at h
  · by_cases h20 : m = 2 ∧ ∃ d g off n s, v = .own d g off n s
    · obtain ⟨rfl, d, g, off, n, s, rfl⟩ := h20
      have hd : d ∈ W := hk d (by simp [keyOf, keyOf1])
      have e := A.at_ d (hWK d hd)
      simp only [outArg, e] at h ⊢
      split at h
      · rename_i g' es sz hr
        split at h
        · rename_i hc
          simp only [Option.some.injEq, Prod.mk.injEq] at h
          obtain ⟨rfl, rfl, rfl⟩ := h
          simp only [if_pos hc]
          exact ⟨Keeps.refl, by simp [Lent.key, hd], _, rfl, A, Rest.refl, Rest.refl⟩
        · simp at h
      · simp at h
    · by_cases h2l : m = 2 ∧ ∃ d g off, v = .loc d g off
      · obtain ⟨rfl, d, g, off, rfl⟩ := h2l
        have hd : d ∈ W := hk d (by simp [keyOf, keyOf1])
        have e := A.at_ d (hWK d hd)
        simp only [outArg, e] at h ⊢
        split at h
        · rename_i g' cs hr
          split at h
          · rename_i hc
            split at h
            · rename_i vs t1 hall
              simp only [Option.some.injEq, Prod.mk.injEq] at h
              obtain ⟨rfl, rfl, rfl⟩ := h
              obtain ⟨t2', e1, A1, r1, r2⟩ := outAll_loc hWK (l := cs) (fun d' hd' => hdeep d' (by simp only [deepOf, hr]; exact hd')) t2 vs t1 A hall
              simp only at e1
              simp only [if_pos hc, e1]
              exact ⟨outAll_keeps hall, by simp [Lent.key, hd], _, rfl, A1, r1, r2⟩
            · simp at h
          · simp at h
        · simp at h
      · by_cases h1f : m = 1 ∧ ∃ es, v = .full es
        · obtain ⟨rfl, es, rfl⟩ := h1f
          simp only [outArg, Option.some.injEq, Prod.mk.injEq] at h ⊢
          obtain ⟨rfl, rfl, rfl⟩ := h
          exact ⟨Keeps.refl, by simp, t2, ⟨rfl, rfl, rfl⟩, A, Rest.refl, Rest.refl⟩
        · refine plain (fun t => outArg m t v) (fun t => ?_) h
          unfold outArg
          split
          · exact absurd ⟨rfl, _, _, _, _, _, rfl⟩ h10
          · exact absurd ⟨rfl, _, _, _, _, _, rfl⟩ h20
          · exact absurd ⟨rfl, _, _, _, rfl⟩ h2l
          · exact absurd ⟨rfl, _, rfl⟩ h1f
          · rfl

theorem deepOf_keeps {t t' : List TC} (h : Keeps t t') {v : SV} {d : Nat} (hd : d ∈ deepOf t' v) : d ∈ deepOf t v := by
  cases v with
  | loc e g off =>
    simp only [deepOf] at hd ⊢
    split at hd
    · rename_i g' cs wr hr
      obtain ⟨w0, h0⟩ := h e g' cs wr hr
      rw [h0]; exact hd
    · simp at hd
  | _ => simp [deepOf] at hd

theorem outArgs_loc (hWK : ∀ d, d ∈ W → d ∈ K) {mode : Nat → Nat} : ∀ {l : List SV} {k : Nat} {t : List TC}, (∀ d, d ∈ l.flatMap keyOf → d ∈ W) → (∀ d, d ∈ l.flatMap (deepOf t) → d ∈ W) →
    ∀ {t2 : List TC} {rs : List RV} {t' : List TC} {ln : List Lent}, Agree K t t2 → outArgs mode t k l = some (rs, t', ln) →
    (∀ e, e ∈ ln → e.key ∈ W) ∧ ∃ t2', outArgs mode t2 k l = some (rs, t2', ln) ∧ Agree K t' t2' ∧ Rest W t t' ∧ Rest W t2 t2'
  | [], k, t, _, _, t2, rs, t', ln, A, h => by
    simp [outArgs] at h
    obtain ⟨rfl, rfl, rfl⟩ := h
    exact ⟨by simp, t2, rfl, A, Rest.refl, Rest.refl⟩
  | v :: l, k, t, hk, hdeep, t2, rs, t', ln, A, h => by
    simp only [outArgs] at h
    split at h
    · rename_i u t1 l1 h1
      split at h
      · rename_i us t3 l2 h2
        simp only [Option.some.injEq, Prod.mk.injEq] at h
        obtain ⟨rfl, rfl, rfl⟩ := h
        obtain ⟨kp, q1, t2', e1, A1, r1, r2⟩ := outArg_loc hWK (fun d hd => hk d (by rw [List.flatMap_cons]; exact List.mem_append_left _ hd)) (fun d hd => hdeep d (by rw [List.flatMap_cons]; exact List.mem_append_left _ hd)) A h1
        obtain ⟨q2, t2'', e2, A2, r3, r4⟩ := outArgs_loc hWK (l := l) (t := t1) (fun d hd => hk d (by rw [List.flatMap_cons]; exact List.mem_append_right _ hd)) (fun d hd => by
          refine hdeep d ?_
          rw [List.flatMap_cons]
          refine List.mem_append_right _ ?_
          rw [List.mem_flatMap] at hd ⊢
          obtain ⟨x, hx, hd⟩ := hd
          exact ⟨x, hx, deepOf_keeps kp hd⟩) A1 h2
        refine ⟨fun e he => ?_, t2'', by simp only [outArgs, e1, e2], A2, r1.trans r3, r2.trans r4⟩
        rw [List.mem_append] at he
        exact he.elim (q1 e) (q2 e)
      · simp at h
    · simp at h

theorem stillOwn_loc {t t2 : List TC} {l : Lent} (h : tget t2 l.key = tget t l.key) : stillOwn t2 l = stillOwn t l := by
  cases l <;> simp only [Lent.key] at h <;> simp only [stillOwn, h]

theorem all_congr {α : Type} {f g : α → Bool} : ∀ {l : List α}, (∀ x, x ∈ l → f x = g x) → l.all f = l.all g
  | [], _ => rfl
  | a :: l, h => by simp only [List.all_cons, h a (by simp), all_congr fun x hx => h x (List.mem_cons_of_mem _ hx)]

theorem backV_loc (hWK : ∀ d, d ∈ W → d ∈ K) : ∀ {ln : List Lent} {bs : List RV} {t t2 t' : List TC}, (∀ e, e ∈ ln → e.key ∈ W) → Agree K t t2 → backV t ln bs = some t' →
    ∃ t2', backV t2 ln bs = some t2' ∧ Agree K t' t2' ∧ Rest W t t' ∧ Rest W t2 t2' := by
  intro ln
  induction ln with
  | nil =>
    intro bs t t2 t' hk A h
    cases bs with
    | nil => simp [backV] at h; subst h; exact ⟨t2, rfl, A, Rest.refl, Rest.refl⟩
    | cons b bs => simp [backV] at h
  | cons l ln ih =>
    intro bs t t2 t' hk A h
    cases bs with
    | nil => cases l <;> simp [backV] at h
    | cons r bs =>
      cases l with
      | row d g =>
        have hd : d ∈ W := hk (.row d g) (by simp)
        have e := A.at_ d (hWK d hd)
        cases r with
        | own es sz =>
          simp only [backV, e] at h ⊢
          split at h
          · rename_i g' es0 sz0 hr
            split at h
            · rename_i hc
              simp only [if_pos hc]
              obtain ⟨t2', e1, A1, r1, r2⟩ := ih (fun e he => hk e (List.mem_cons_of_mem _ he)) (A.set d (.row g es sz false)) h
              exact ⟨t2', e1, A1, (Rest.set _ hd).trans r1, (Rest.set _ hd).trans r2⟩
            · simp at h
          · simp at h
        | _ => simp [backV] at h
      | box d g =>
        have hd : d ∈ W := hk (.box d g) (by simp)
        have e := A.at_ d (hWK d hd)
        cases r with
        | box cs off =>
          simp only [backV, e] at h ⊢
          split at h
          · rename_i g' cs0 hr
            split at h
            · rename_i hc
              simp only [if_pos hc]
              obtain ⟨t2', e1, A1, r1, r2⟩ := ih (fun e he => hk e (List.mem_cons_of_mem _ he)) (A.set d (.box g (cs.map .val) true)) h
              exact ⟨t2', e1, A1, (Rest.set _ hd).trans r1, (Rest.set _ hd).trans r2⟩
            · simp at h
          · simp at h
        | _ => simp [backV] at h

theorem ofCell_loc (hWK : ∀ d, d ∈ W → d ∈ K) {ks : List Nat} {r : RV} {t t2 t' : List TC} {s : SV} {ks' : List Nat} (hk : ∀ d, d ∈ ks → d ∈ W) (A : Agree K t t2) (h : ofCell t ks r = some (s, t', ks')) :
    (∀ d, d ∈ ks' → d ∈ W) ∧ ∃ t2', ofCell t2 ks r = some (s, t2', ks') ∧ Agree K t' t2' ∧ Rest W t t' ∧ Rest W t2 t2' := by
  cases r with
  | own es sz =>
    cases ks with
    | nil =>
      simp only [ofCell, Option.some.injEq, Prod.mk.injEq] at h ⊢
      obtain ⟨rfl, rfl, rfl⟩ := h
      exact ⟨by simp, t2, ⟨rfl, rfl, rfl⟩, A, Rest.refl, Rest.refl⟩
    | cons d ks =>
      have hd : d ∈ W := hk d (by simp)
      have e := A.at_ d (hWK d hd)
      simp only [ofCell, e, A.len] at h ⊢
      split at h
      · rename_i hc
        simp only [Option.some.injEq, Prod.mk.injEq] at h
        obtain ⟨rfl, rfl, rfl⟩ := h
        rw [if_pos hc]
        exact ⟨fun d hd => hk d (List.mem_cons_of_mem _ hd), _, rfl, A.set _ _, Rest.set _ hd, Rest.set _ hd⟩
      · simp at h
  | val v =>
    simp only [ofCell, Option.some.injEq, Prod.mk.injEq] at h ⊢
    obtain ⟨rfl, rfl, rfl⟩ := h
    exact ⟨hk, t2, ⟨rfl, rfl, rfl⟩, A, Rest.refl, Rest.refl⟩
  | full es =>
    simp only [ofCell, Option.some.injEq, Prod.mk.injEq] at h ⊢
    obtain ⟨rfl, rfl, rfl⟩ := h
    exact ⟨hk, t2, ⟨rfl, rfl, rfl⟩, A, Rest.refl, Rest.refl⟩
  | box cs off => simp [ofCell] at h
  | st cs => simp [ofCell] at h

theorem ofCells_loc (hWK : ∀ d, d ∈ W → d ∈ K) : ∀ {rs : List RV} {ks : List Nat} {t t2 t' : List TC} {ss : List SV} {ks' : List Nat}, (∀ d, d ∈ ks → d ∈ W) → Agree K t t2 → ofCells t ks rs = some (ss, t', ks') →
    (∀ d, d ∈ ks' → d ∈ W) ∧ ∃ t2', ofCells t2 ks rs = some (ss, t2', ks') ∧ Agree K t' t2' ∧ Rest W t t' ∧ Rest W t2 t2'
  | [], ks, t, t2, t', ss, ks', hk, A, h => by
    simp [ofCells] at h
    obtain ⟨rfl, rfl, rfl⟩ := h
    exact ⟨hk, t2, rfl, A, Rest.refl, Rest.refl⟩
  | r :: rs, ks, t, t2, t', ss, ks', hk, A, h => by
    simp only [ofCells] at h
    split at h
    · rename_i v t1 k1 h1
      split at h
      · rename_i vs t3 k2 h2
        simp only [Option.some.injEq, Prod.mk.injEq] at h
        obtain ⟨rfl, rfl, rfl⟩ := h
        obtain ⟨q1, t2', e1, A1, r1, r2⟩ := ofCell_loc hWK hk A h1
        obtain ⟨q2, t2'', e2, A2, r3, r4⟩ := ofCells_loc hWK q1 A1 h2
        exact ⟨q2, t2'', by simp only [ofCells, e1, e2], A2, r1.trans r3, r2.trans r4⟩
      · simp at h
    · simp at h

theorem ofRV1_loc (hWK : ∀ d, d ∈ W → d ∈ K) {ks : List Nat} {r : RV} {t t2 t' : List TC} {s : SV} {ks' : List Nat} (hk : ∀ d, d ∈ ks → d ∈ W) (A : Agree K t t2) (h : ofRV1 t ks r = some (s, t', ks')) :
    (∀ d, d ∈ ks' → d ∈ W) ∧ ∃ t2', ofRV1 t2 ks r = some (s, t2', ks') ∧ Agree K t' t2' ∧ Rest W t t' ∧ Rest W t2 t2' := by
  cases r with
  | st cs =>
    simp only [ofRV1, Option.map_eq_some_iff] at h
    obtain ⟨⟨ss, t1, k1⟩, h1, h2⟩ := h
    simp only [Prod.mk.injEq] at h2
    obtain ⟨rfl, rfl, rfl⟩ := h2
    obtain ⟨q, t2', e1, A1, r1, r2⟩ := ofCells_loc hWK hk A h1
    exact ⟨q, t2', by simp [ofRV1, e1], A1, r1, r2⟩
  | val v => exact ofCell_loc hWK (r := .val v) hk A h
  | full v => exact ofCell_loc hWK (r := .full v) hk A h
  | own es sz => exact ofCell_loc hWK (r := .own es sz) hk A h
  | box cs off => exact ofCell_loc hWK (r := .box cs off) hk A h

theorem ofRVs_loc (hWK : ∀ d, d ∈ W → d ∈ K) : ∀ {rs : List RV} {ks : List Nat} {t t2 t' : List TC} {ss : List SV} {ks' : List Nat}, (∀ d, d ∈ ks → d ∈ W) → Agree K t t2 → ofRVs t ks rs = some (ss, t', ks') →
    (∀ d, d ∈ ks' → d ∈ W) ∧ ∃ t2', ofRVs t2 ks rs = some (ss, t2', ks') ∧ Agree K t' t2' ∧ Rest W t t' ∧ Rest W t2 t2'
  | [], ks, t, t2, t', ss, ks', hk, A, h => by
    simp [ofRVs] at h
    obtain ⟨rfl, rfl, rfl⟩ := h
    exact ⟨hk, t2, rfl, A, Rest.refl, Rest.refl⟩
  | r :: rs, ks, t, t2, t', ss, ks', hk, A, h => by
    simp only [ofRVs] at h
    split at h
    · rename_i v t1 k1 h1
      split at h
      · rename_i vs t3 k2 h2
        simp only [Option.some.injEq, Prod.mk.injEq] at h
        obtain ⟨rfl, rfl, rfl⟩ := h
        obtain ⟨q1, t2', e1, A1, r1, r2⟩ := ofRV1_loc hWK hk A h1
        obtain ⟨q2, t2'', e2, A2, r3, r4⟩ := ofRVs_loc hWK q1 A1 h2
        exact ⟨q2, t2'', by simp only [ofRVs, e1, e2], A2, r1.trans r3, r2.trans r4⟩
      · simp at h
    · simp at h

theorem ofRV_loc (hWK : ∀ d, d ∈ W → d ∈ K) {rs : List RV} {ks : List Nat} {t t2 t' : List TC} {s : SV} (hk : ∀ d, d ∈ ks → d ∈ W) (A : Agree K t t2) (h : ofRV t ks rs = some (s, t')) :
    ∃ t2', ofRV t2 ks rs = some (s, t2') ∧ Agree K t' t2' ∧ Rest W t t' ∧ Rest W t2 t2' := by
  unfold ofRV at h ⊢
  split at h
  · rename_i v t1 k1 h1
    simp only [Option.some.injEq, Prod.mk.injEq] at h
    obtain ⟨rfl, rfl⟩ := h
    obtain ⟨_, t2', e1, A1, r1, r2⟩ := ofRVs_loc hWK hk A h1
    exact ⟨t2', by simp only [e1], A1, r1, r2⟩
  · rename_i vs t1 k1 hne h1
    simp only [Option.some.injEq, Prod.mk.injEq] at h
    obtain ⟨rfl, rfl⟩ := h
    obtain ⟨_, t2', e1, A1, r1, r2⟩ := ofRVs_loc hWK hk A h1
    refine ⟨t2', ?_, A1, r1, r2⟩
    rw [e1]
    split
    · rename_i v t3 k3 h3
      simp only [Option.some.injEq, Prod.mk.injEq] at h3
      exact absurd h3.1 (hne v)
    · rename_i a b c _ h3
      simp only [Option.some.injEq, Prod.mk.injEq] at h3
      obtain ⟨rfl, rfl, rfl⟩ := h3
      rfl
    · rename_i h3; cases h3
  · simp at h

end
end Go.Vi

/-
  An operation hangs on its footprint alone.
-/
namespace Go.Vi
set_option linter.unusedVariables false
set_option linter.unusedSimpArgs false

section
variable {P : Program}

/-- what an operation does on another table that looks alike -/
structure Like (F : Foot) (tab : List TC) (H : Hp) (s : St) (tab2 : List TC) (H2 : Hp) (s2 : St) : Prop where
  v : s2.v = s.v
  agree : Agree (F.reads ++ F.writes) s.tab s2.tab
  rest : Rest F.writes tab s.tab
  rest2 : Rest F.writes tab2 s2.tab
  cold : F.heap = false → s.hp = H ∧ s2.hp = H2
  hot : F.heap = true → s2.hp = s.hp

theorem Like.keep {F : Foot} {tab tab2 : List TC} {H H2 : Hp} {v : SV} (A : Agree (F.reads ++ F.writes) tab tab2) (hH : F.heap = true → H2 = H) : Like F tab H ⟨v, tab, H⟩ tab2 H2 ⟨v, tab2, H2⟩ :=
  ⟨rfl, A, Rest.refl, Rest.refl, fun _ => ⟨rfl, rfl⟩, hH⟩

theorem Like.cold' {F : Foot} {tab tab2 t t2 : List TC} {H H2 : Hp} {v : SV} (hF : F.heap = false) (A : Agree (F.reads ++ F.writes) t t2) (r : Rest F.writes tab t) (r2 : Rest F.writes tab2 t2) : Like F tab H ⟨v, t, H⟩ tab2 H2 ⟨v, t2, H2⟩ :=
  ⟨rfl, A, r, r2, fun _ => ⟨rfl, rfl⟩, fun h => by rw [hF] at h; cases h⟩

theorem Like.hot' {F : Foot} {tab tab2 t t2 : List TC} {H H2 H' : Hp} {v : SV} (hF : F.heap = true) (A : Agree (F.reads ++ F.writes) t t2) (r : Rest F.writes tab t) (r2 : Rest F.writes tab2 t2) : Like F tab H ⟨v, t, H'⟩ tab2 H2 ⟨v, t2, H'⟩ :=
  ⟨rfl, A, r, r2, (fun h => by rw [hF] at h; cases h), fun _ => rfl⟩

theorem added_loc {K : List Nat} {t t2 : List TC} {x : SV} (A : Agree K t t2) (hk : ∀ d, d ∈ keyOf x → d ∈ K) : added t2 x = added t x := by
  cases x with
  | own d g off n s =>
    have e := A.at_ d (hk d (by simp [keyOf, keyOf1]))
    simp only [added, e]
  | val v => cases v <;> rfl
  | _ => rfl

theorem addedH_loc {K : List Nat} {t t2 : List TC} {H H2 : Hp} {x : SV} (A : Agree K t t2) (hk : ∀ d, d ∈ keyOf x → d ∈ K) (hH : rowS x = true → H2 = H) : addedH t2 H2 x = addedH t H x := by
  unfold addedH
  split
  · rw [hH rfl]
  · exact added_loc A hk

theorem moveV_loc {K W : List Nat} (hWK : ∀ d, d ∈ W → d ∈ K) {mv : Bool} {t t2 t' : List TC} {H H' : Hp} {v : SV} {u : VV} (hk : ∀ d, d ∈ keyOf1 v → d ∈ W) (A : Agree K t t2) (h : moveV mv t H v = some (u, t', H')) :
    ∃ t2', moveV mv t2 H v = some (u, t2', H') ∧ Agree K t' t2' ∧ Rest W t t' ∧ Rest W t2 t2' := by
  have plain : (outT1 t v).map (fun (u, t) => (u, t, H)) = some (u, t', H') → ∃ t2', (outT1 t2 v).map (fun (u, t) => (u, t, H)) = some (u, t2', H') ∧ Agree K t' t2' ∧ Rest W t t' ∧ Rest W t2 t2' := fun h => by
    rw [Option.map_eq_some_iff] at h
    obtain ⟨⟨u1, t1⟩, h1, h2⟩ := h
    simp only [Prod.mk.injEq] at h2
    obtain ⟨rfl, rfl, rfl⟩ := h2
    obtain ⟨t2', e, q⟩ := outT1_loc hWK hk t2 _ _ A h1
    exact ⟨t2', by simp only at e; rw [e]; rfl, q⟩
  unfold moveV at h ⊢
  split at h
  · rename_i d g off n s
    split at h
    · rename_i hmv
      rw [if_pos hmv]
      have hdw := hk d (by simp [keyOf1])
      rw [A.at_ d (hWK d hdw)]
      split at h
      · rename_i g' es sz hr
        split at h
        · rename_i hc
          simp only [Option.some.injEq, Prod.mk.injEq] at h
          obtain ⟨rfl, rfl, rfl⟩ := h
          rw [if_pos hc]
          exact ⟨_, rfl, A.set _ _, Rest.set _ hdw, Rest.set _ hdw⟩
        · simp at h
      · simp at h
    · rename_i hmv
      rw [if_neg hmv]
      exact plain h
  · exact plain h

theorem moveAll_loc {K W : List Nat} (hWK : ∀ d, d ∈ W → d ∈ K) {mv : Bool} : ∀ {l : List SV} {t t2 t' : List TC} {H H' : Hp} {us : List VV}, (∀ d, d ∈ l.flatMap keyOf1 → d ∈ W) → Agree K t t2 → moveAll mv t H l = some (us, t', H') →
    ∃ t2', moveAll mv t2 H l = some (us, t2', H') ∧ Agree K t' t2' ∧ Rest W t t' ∧ Rest W t2 t2'
  | [], t, t2, t', H, H', us, _, A, h => by
    simp only [moveAll, Option.some.injEq, Prod.mk.injEq] at h
    obtain ⟨rfl, rfl, rfl⟩ := h
    exact ⟨t2, rfl, A, Rest.refl, Rest.refl⟩
  | v :: l, t, t2, t', H, H', us, hk, A, h => by
    simp only [moveAll] at h ⊢
    split at h
    · rename_i u1 t1 H1 h1
      split at h
      · rename_i us1 t3 H3 h3
        simp only [Option.some.injEq, Prod.mk.injEq] at h
        obtain ⟨rfl, rfl, rfl⟩ := h
        obtain ⟨ta, e1, A1, r1, r2⟩ := moveV_loc hWK (fun d hd => hk d (by simp [hd])) A h1
        obtain ⟨tb, e2, A2, r3, r4⟩ := moveAll_loc hWK (fun d hd => hk d (by rw [List.flatMap_cons]; exact List.mem_append_right _ hd)) A1 h3
        exact ⟨tb, by simp only [e1, e2], A2, r1.trans r3, r2.trans r4⟩
      · simp at h
    · simp at h

theorem keys_cells {v : SV} {d : Nat} (h : d ∈ (svCells v).flatMap keyOf1) : d ∈ keyOf v := by
  cases v with
  | val u =>
    exfalso
    rw [List.mem_flatMap] at h
    obtain ⟨a, ha, hd⟩ := h
    have : ∃ z, a = .val z := by
      cases u <;> simp [svCells] at ha <;> first | exact ⟨_, ha⟩ | (obtain ⟨z, _, rfl⟩ := ha; exact ⟨_, rfl⟩)
    obtain ⟨z, rfl⟩ := this
    cases hd
  | st cs => exact h
  | tup l => simp [svCells, keyOf1] at h
  | _ => simp only [svCells, List.flatMap_cons, List.flatMap_nil, List.append_nil] at h; exact h

theorem mem_rw {F : Foot} : ∀ d, d ∈ F.writes → d ∈ F.reads ++ F.writes := fun d h => List.mem_append_right _ h

theorem appendV_loc {dst : Option Tmp} {t : TypeId} {x y : Option SV} {tab tab2 : List TC} {H H2 : Hp} {s : St} {F : Foot} (h : appendV P dst t x y tab H = some s) (A : Agree (F.reads ++ F.writes) tab tab2) (hF : F.heap = false)
    (hd : ∀ d, dst = some d → d ∈ F.writes) (hx : ∀ v, x = some v → ∀ d, d ∈ keyOf v → d ∈ F.writes) (hy : ∀ v, y = some v → ∀ d, d ∈ keyOf v → d ∈ F.reads) (hyr : ∀ v, y = some v → rowS v = true → H2 = H) :
    ∃ s2, appendV P dst t x y tab2 H2 = some s2 ∧ Like F tab H s tab2 H2 s2 := by
  unfold appendV at h ⊢
  split at h
  · rename_i d s0 a e he
    have ea := addedH_loc (x := a) (H := H) (H2 := H2) A (fun d' hd' => List.mem_append_left _ (hy a rfl d' hd')) (hyr a rfl)
    have hdw := hd d rfl
    have ed := A.at_ d (mem_rw d hdw)
    split at h
    · rename_i sz i new hsz hi hnew
      simp only [he, hsz, hi, ea, hnew, A.len]
      split at h
      · rename_i hc
        rw [if_pos hc]
        split at h
        · split at h
          · rename_i hem
            simp only [Option.some.injEq] at h; subst h
            rw [if_pos hem]
            exact ⟨_, rfl, Like.cold' hF A Rest.refl Rest.refl⟩
          · rename_i hem
            rw [if_neg hem]
            split at h
            · rename_i hro
              simp only [Option.some.injEq] at h; subst h
              rw [if_pos hro, ed]
              exact ⟨_, rfl, Like.cold' hF (A.set _ _) (Rest.set _ hdw) (Rest.set _ hdw)⟩
            · simp at h
        · split at h
          · rename_i hes
            rw [if_pos hes]
            split at h
            · rename_i hem
              simp only [Option.some.injEq] at h; subst h
              rw [if_pos hem]
              exact ⟨_, rfl, Like.cold' hF A Rest.refl Rest.refl⟩
            · rename_i hem
              rw [if_neg hem]
              split at h
              · rename_i hro
                simp only [Option.some.injEq] at h; subst h
                rw [if_pos hro, ed]
                exact ⟨_, rfl, Like.cold' hF (A.set _ _) (Rest.set _ hdw) (Rest.set _ hdw)⟩
              · simp at h
          · simp at h
        · rename_i d' g' off n s'
          have hdw' := hx _ rfl d' (by simp [keyOf, keyOf1])
          have ed' := A.at_ d' (mem_rw d' hdw')
          simp only [ed']
          split at h
          · rename_i g'' es sz' lk hr
            split at h
            · rename_i hcc
              simp only [Option.some.injEq] at h; subst h
              rw [if_pos hcc]
              have ed2 : tget (tab2.set d' (.gone g')) d = tget (tab.set d' (.gone g')) d := (A.set d' (.gone g')).at_ d (mem_rw d hdw)
              rw [ed2]
              exact ⟨_, rfl, Like.cold' hF ((A.set _ _).set _ _) ((Rest.set _ hdw').trans (Rest.set _ hdw)) ((Rest.set _ hdw').trans (Rest.set _ hdw))⟩
            · simp at h
          · simp at h
        · simp at h
      · simp at h
    · simp at h
  · simp at h

theorem copyV_loc {t : TypeId} {x y : Option SV} {tab tab2 : List TC} {H H2 : Hp} {s : St} {F : Foot} (h : copyV P t x y tab H = some s) (A : Agree (F.reads ++ F.writes) tab tab2) (hF : F.heap = false)
    (hx : ∀ v, x = some v → ∀ d, d ∈ keyOf v → d ∈ F.writes) (hy : ∀ v, y = some v → ∀ d, d ∈ keyOf v → d ∈ F.reads) : ∃ s2, copyV P t x y tab2 H2 = some s2 ∧ Like F tab H s tab2 H2 s2 := by
  unfold copyV at h ⊢
  split at h
  · rename_i d g off n s0 a e he
    have ea := added_loc (x := a) A (fun d' hd' => List.mem_append_left _ (hy a rfl d' hd'))
    have hdw := hx _ rfl d (by simp [keyOf, keyOf1])
    have ed := A.at_ d (mem_rw d hdw)
    split at h
    · rename_i sz new g' es s' hsz hnew hr
      simp only [he, hsz, ea, hnew, ed, hr]
      split at h
      · rename_i hc
        simp only [Option.some.injEq] at h; subst h
        rw [if_pos hc]
        exact ⟨_, rfl, Like.cold' hF (A.set _ _) (Rest.set _ hdw) (Rest.set _ hdw)⟩
      · simp at h
    · simp at h
  · simp at h

theorem clearV_loc {t : TypeId} {x : Option SV} {tab tab2 : List TC} {H H2 : Hp} {s : St} {F : Foot} (h : clearV P t x tab H = some s) (A : Agree (F.reads ++ F.writes) tab tab2) (hF : F.heap = false)
    (hx : ∀ v, x = some v → ∀ d, d ∈ keyOf v → d ∈ F.writes) : ∃ s2, clearV P t x tab2 H2 = some s2 ∧ Like F tab H s tab2 H2 s2 := by
  unfold clearV at h ⊢
  split at h
  · rename_i d g off n s0 e he
    have hdw := hx _ rfl d (by simp [keyOf, keyOf1])
    have ed := A.at_ d (mem_rw d hdw)
    split at h
    · rename_i sz z g' es s' hsz hz hr
      simp only [he, hsz, hz, ed, hr]
      split at h
      · rename_i hc
        simp only [Option.some.injEq] at h; subst h
        rw [if_pos hc]
        exact ⟨_, rfl, Like.cold' hF (A.set _ _) (Rest.set _ hdw) (Rest.set _ hdw)⟩
      · simp at h
    · simp at h
  · simp at h

theorem appendH_loc {t : TypeId} {o off n s0 : Nat} {y : Option SV} {tab tab2 : List TC} {H : Hp} {s : St} {F : Foot} (h : appendH P t o off n s0 y tab H = some s) (A : Agree (F.reads ++ F.writes) tab tab2) (hF : F.heap = true)
    (hy : ∀ v, y = some v → ∀ d, d ∈ keyOf v → d ∈ F.reads) : ∃ s2, appendH P t o off n s0 y tab2 H = some s2 ∧ Like F tab H s tab2 H s2 := by
  unfold appendH at h ⊢
  split at h
  · rename_i a e he
    have ea := addedH_loc (x := a) (H := H) (H2 := H) A (fun d' hd' => List.mem_append_left _ (hy a rfl d' hd')) (fun _ => rfl)
    split at h
    · rename_i sz i new hsz hi hnew
      simp only [he, hsz, hi, ea, hnew]
      split at h
      · rename_i hc
        rw [if_pos hc]
        split at h
        · rename_i es sz' hob
          split at h
          · rename_i hcc
            rw [if_pos hcc]
            split at h
            · rename_i hem
              rw [if_pos hem]
              simp only [Option.some.injEq] at h; subst h
              exact ⟨_, rfl, Like.hot' hF A Rest.refl Rest.refl⟩
            · rename_i hem
              rw [if_neg hem]
              simp only [Option.some.injEq] at h; subst h
              exact ⟨_, rfl, Like.hot' hF A Rest.refl Rest.refl⟩
          · simp at h
        · simp at h
      · simp at h
    · simp at h
  · simp at h

theorem callsV_loc {pol : Pol} {keys : Nat → List Nat} {call : CallV} {dst : Option Tmp} {f : Option SV} {args : List (Option SV)} {tab tab2 : List TC} {H : Hp} {s : St} {F : Foot} (h : callsV pol keys call dst f args tab H = some s)
    (A : Agree (F.reads ++ F.writes) tab tab2) (hF : F.heap = false → ∀ fid first captured, f = some (.val (.func fid first captured)) → keepsHeap pol fid = true) (hd : ∀ d, d ∈ dst.toList ++ keys (dst.getD 0) → d ∈ F.writes)
    (hk : ∀ v, some v ∈ args → ∀ d, (d ∈ keyOf v ∨ d ∈ deepOf tab v) → d ∈ F.writes) : ∃ s2, callsV pol keys call dst f args tab2 H = some s2 ∧ Like F tab H s tab2 H s2 := by
  unfold callsV at h ⊢
  split at h
  · rename_i fid first captured as has
    have hmem : ∀ v, v ∈ as → some v ∈ args := fun v hv => by
      obtain ⟨m1, m2⟩ := mapM_some has
      obtain ⟨i, hi⟩ := List.getElem?_of_mem hv
      have hlt := (List.getElem?_eq_some_iff.1 hi).1
      have hx := List.getElem?_eq_getElem (show i < args.length by omega)
      have := m2 i _ v hx hi
      simp only [id] at this
      rw [this] at hx
      exact List.mem_of_getElem? hx
    split at h
    · rename_i vs tab1 ln hargs
      obtain ⟨kl, t1', e1, A1, r1, r2⟩ := outArgs_loc (K := F.reads ++ F.writes) (W := F.writes) mem_rw (fun d hd => by
        rw [List.mem_flatMap] at hd; obtain ⟨v, hv, hd⟩ := hd; exact hk v (hmem v hv) d (.inl hd)) (fun d hd => by
        rw [List.mem_flatMap] at hd; obtain ⟨v, hv, hd⟩ := hd; exact hk v (hmem v hv) d (.inr hd)) A hargs
      have est : ln.all (stillOwn t1') = ln.all (stillOwn tab1) := all_congr fun l hl => stillOwn_loc (A1.at_ _ (mem_rw _ (kl l hl)))
      simp only [has, e1, est]
      split at h
      · simp at h
      · rename_i hchk
        rw [if_neg hchk]
        split at h
        · rename_i r back H' hres
          split at h
          · simp at h
          · rename_i hpure
            rw [if_neg hpure]
            split at h
            · rename_i tab3 hback
              have : ∃ t3', backV (if (pol.pure fid && r.all flatR && back.all flatR && keepsAll (pol.mode fid) first.length as) = true then tab2 else t1') ln back = some t3' ∧ Agree (F.reads ++ F.writes) tab3 t3' ∧ Rest F.writes tab tab3 ∧ Rest F.writes tab2 t3' := by
                split at hback
                · rename_i hb
                  rw [if_pos hb]
                  exact backV_loc mem_rw kl A hback
                · rename_i hb
                  rw [if_neg hb]
                  obtain ⟨t, q1, q2, q3, q4⟩ := backV_loc mem_rw kl A1 hback
                  exact ⟨t, q1, q2, r1.trans q3, r2.trans q4⟩
              obtain ⟨t3', e3, A3, r3, r4⟩ := this
              simp only [e3]
              split at h
              · rename_i v tab4 hrv
                simp only [Option.some.injEq] at h
                subst h
                obtain ⟨t4', e4, A4, r5, r6⟩ := ofRV_loc mem_rw hd A3 hrv
                simp only [e4]
                exact ⟨_, rfl, rfl, A4, r3.trans r5, r4.trans r6, (fun h => by simp only [hF h _ _ _ rfl, if_true, and_self]), fun _ => rfl⟩
              · simp at h
            · simp at h
        · simp at h
    · simp at h
  · simp at h

theorem partsOf_mem {ρ : Operand → Option SV} : ∀ {ps : List (Nat × Operand)} {qs : List (Nat × SV)}, partsOf ρ ps = some qs → ∀ v, v ∈ qs.map (·.2) → ∃ p, p ∈ ps ∧ ρ p.2 = some v
  | [], qs, h, v, hv => by simp [partsOf] at h; subst h; simp at hv
  | (i, x) :: ps, qs, h, v, hv => by
    unfold partsOf at h
    rw [List.mapM_cons] at h
    cases hx : ρ x with
    | none => simp [hx] at h
    | some u =>
      cases hm : ps.mapM (fun (i, x) => (ρ x).map fun v => (i, v)) with
      | none => simp [hx, hm] at h
      | some r =>
        simp [hx, hm] at h
        subst h
        simp only [List.map_cons, List.mem_cons] at hv
        rcases hv with rfl | hv
        · exact ⟨(i, x), by simp, hx⟩
        · obtain ⟨p, hp, hv'⟩ := partsOf_mem (ps := ps) hm v hv
          exact ⟨p, List.mem_cons_of_mem _ hp, hv'⟩

end
end Go.Vi

/-
  An operation hangs on its footprint alone (2).
-/
namespace Go.Vi
set_option linter.unusedVariables false
set_option linter.unusedSimpArgs false

section
variable {P : Program}

theorem keysAt_some {ρ : Operand → Option SV} {x : Operand} {v : SV} (h : ρ x = some v) : keysAt ρ x = keyOf v := by simp [keysAt, h]

theorem mapM_mem {ρ : Operand → Option SV} {l : List Operand} {r : List SV} (h : l.mapM ρ = some r) {v : SV} (hv : v ∈ r) : ∃ x, x ∈ l ∧ ρ x = some v := by
  obtain ⟨m1, m2⟩ := mapM_some h
  obtain ⟨i, hi⟩ := List.getElem?_of_mem hv
  have hlt := (List.getElem?_eq_some_iff.1 hi).1
  have hx := List.getElem?_eq_getElem (show i < l.length by omega)
  exact ⟨_, List.mem_of_getElem? hx, m2 i _ v hx hi⟩

theorem stepV_loc {pol : Pol} {keys : Nat → List Nat} {call : CallV} {dst : Option Tmp} {ρ : Operand → Option SV} {tab tab2 : List TC} {H H2 : Hp} {op : Op} {s : St} (h : stepV P pol keys call dst ρ tab H op = some s)
    (A : Agree ((footV pol keys dst ρ tab op).reads ++ (footV pol keys dst ρ tab op).writes) tab tab2) (hH : (footV pol keys dst ρ tab op).heap = true ∨ (footV pol keys dst ρ tab op).hr = true → H2 = H) :
    ∃ s2, stepV P pol keys call dst ρ tab2 H2 op = some s2 ∧ Like (footV pol keys dst ρ tab op) tab H s tab2 H2 s2 := by
  generalize hF : footV pol keys dst ρ tab op = F at A hH ⊢
  have pure : (pureV P ρ op).map (fun v => (⟨v, tab, H⟩ : St)) = some s → ∃ s2, (pureV P ρ op).map (fun v => (⟨v, tab2, H2⟩ : St)) = some s2 ∧ Like F tab H s tab2 H2 s2 := fun h => by
    rw [Option.map_eq_some_iff] at h
    obtain ⟨v, hv, rfl⟩ := h
    exact ⟨_, by rw [hv]; rfl, Like.keep A fun h => hH (.inl h)⟩
  cases op with
  | alloc e =>
    subst hF
    simp only [stepV, footV, A.len] at h A hH ⊢
    split at h
    · rename_i d z hz
      have hdw : d ∈ (some d : Option Nat).toList := by simp
      have ed := A.at_ d (by simp)
      split at h
      · rename_i hon
        simp only [Option.some.injEq] at h; subst h
        obtain rfl := hH (.inl hon)
        rw [if_pos hon]
        exact ⟨_, rfl, Like.hot' hon A Rest.refl Rest.refl⟩
      · rename_i hon
        rw [if_neg hon]
        split at h
        · rename_i hlt
          simp only [Option.some.injEq] at h; subst h
          rw [if_pos hlt, ed]
          exact ⟨_, rfl, Like.cold' (by simpa using hon) (A.set _ _) (Rest.set _ hdw) (Rest.set _ hdw)⟩
        · simp at h
    · simp at h
  | box e x =>
    subst hF
    simp only [stepV, footV, A.len] at h A hH ⊢
    split at h
    · rename_i d v hx
      split at h
      · rename_i hon
        obtain rfl := hH (.inl hon)
        rw [if_pos hon]
        split at h
        · rename_i hone
          rw [if_pos hone]
          split at h
          · rename_i us tab' H' hm
            simp only [Option.some.injEq] at h; subst h
            obtain ⟨t2', e1, A1, r1, r2⟩ := moveAll_loc (K := [] ++ ((some d).toList ++ if onHeap keys d = true then keysAt ρ x else [])) (W := (some d).toList ++ if onHeap keys d = true then keysAt ρ x else []) (fun d hd => by simpa using hd)
              (fun d' hd' => List.mem_append_right _ (by rw [if_pos hon, keysAt_some hx]; exact keys_cells hd')) A hm
            simp only [e1]
            exact ⟨_, rfl, Like.hot' hon A1 r1 r2⟩
          · simp at h
        · simp at h
      · rename_i hon
        rw [if_neg hon]
        have hdw : d ∈ (some d : Option Nat).toList ++ (if onHeap keys d = true then keysAt ρ x else []) := by simp
        have ed := A.at_ d (by simp)
        split at h
        · rename_i hlt
          simp only [Option.some.injEq] at h; subst h
          simp only [if_pos hlt, ed]
          exact ⟨_, rfl, Like.cold' (by simpa using hon) (A.set _ _) (Rest.set _ hdw) (Rest.set _ hdw)⟩
        · simp at h
    · simp at h
  | build t parts =>
    simp only [stepV] at h ⊢
    split at h
    · rename_i z fs ps hz hf hps
      split at h
      · rename_i qs hq
        split at h
        · rename_i cs hc
          split at h
          · rename_i hall
            simp only [Option.some.injEq] at h
            subst h
            simp only [hz, hf, hps, hq, hc, if_pos hall]
            exact ⟨_, rfl, Like.keep A fun h => hH (.inl h)⟩
          · simp at h
        · simp at h
      · simp at h
    · simp at h
  | buildSlice t len parts =>
    subst hF
    simp only [stepV, footV] at h A hH ⊢
    split at h
    · rename_i e ps he hps
      split at h
      · rename_i n z vs tab' hn hz hv
        obtain ⟨t2', e1, A1, r1, r2⟩ := outAll_loc (K := [] ++ (dst.toList ++ parts.toList.flatMap fun p => keysAt ρ p.2)) (W := dst.toList ++ parts.toList.flatMap fun p => keysAt ρ p.2) (fun d hd => by simpa using hd) (l := ps.map (·.2)) (fun d hd => by
          rw [List.mem_flatMap] at hd
          obtain ⟨v, hv', hd⟩ := hd
          obtain ⟨p, hp, hpv⟩ := partsOf_mem hps v hv'
          exact List.mem_append_right _ (List.mem_flatMap.2 ⟨p, hp, by rw [keysAt_some hpv]; exact hd⟩)) tab2 vs tab' A hv
        simp only at e1
        simp only [he, hps, hn, hz, e1, A1.len]
        split at h
        · simp at h
        · rename_i hc
          rw [if_neg hc]
          split at h
          · rename_i es d hf
            have hdw : d ∈ (some d : Option Nat).toList ++ parts.toList.flatMap fun p => keysAt ρ p.2 := by simp
            have ed := A1.at_ d (by simp)
            split at h
            · rename_i h0
              simp only [Option.some.injEq] at h; subst h
              rw [if_pos h0]
              exact ⟨_, rfl, Like.cold' rfl A1 r1 r2⟩
            · rename_i h0
              rw [if_neg h0]
              split at h
              · rename_i hlt
                simp only [Option.some.injEq] at h; subst h
                rw [if_pos hlt, ed]
                exact ⟨_, rfl, Like.cold' rfl (A1.set _ _) (r1.trans (Rest.set _ hdw)) (r2.trans (Rest.set _ hdw))⟩
              · simp at h
          · simp at h
      · simp at h
    · simp at h
  | makeInterface t x =>
    subst hF
    simp only [stepV, footV] at h A hH ⊢
    split at h
    · simp at h
    · rename_i d a' hne hu hx
      split at h
      · rename_i v tab' hv
        simp only [Option.some.injEq] at h; subst h
        obtain ⟨t2', e1, A1, r1, r2⟩ := outT_loc (K := [] ++ keysAt ρ x) (W := keysAt ρ x) (fun d hd => by simpa using hd) (v := a') (fun d hd => by rw [keysAt_some hx]; exact hd) tab2 v tab' A hv
        simp only at e1
        refine ⟨⟨.val (.iface t v), t2', H2⟩, ?_, Like.cold' rfl A1 r1 r2⟩
        simp only [e1]
      · simp at h
    · simp at h
  | load t x =>
    subst hF
    simp only [stepV, footV] at h A hH ⊢
    split at h
    · rename_i d g off hx
      have ed := A.at_ d (by simp [keysAt_some hx, keyOf, keyOf1])
      simp only [hx, ed]
      split at h
      · rename_i g' cs wr hr
        split at h
        · rename_i hg
          rw [Option.map_eq_some_iff] at h
          obtain ⟨v, hv, rfl⟩ := h
          rw [if_pos hg, hv]
          exact ⟨_, rfl, Like.keep A fun h => hH (.inl h)⟩
        · simp at h
      · simp at h
    · rename_i d g i off s' hx
      have ed := A.at_ d (by simp [keysAt_some hx, keyOf, keyOf1])
      simp only [hx, ed]
      split at h
      · rename_i g' es sz lk hr
        split at h
        · rename_i hg
          rw [if_pos hg]
          split at h
          · rename_i e he
            rw [Option.map_eq_some_iff] at h
            obtain ⟨v, hv, rfl⟩ := h
            simp only [he, hv]
            exact ⟨_, rfl, Like.keep A fun h => hH (.inl h)⟩
          · simp at h
        · simp at h
      · simp at h
    · rename_i ob off hx
      rw [Option.map_eq_some_iff] at h
      obtain ⟨v, hv, rfl⟩ := h
      obtain rfl := hH (.inr (by simp [ptrAt, hx]))
      refine ⟨⟨.val v, tab2, H2⟩, ?_, Like.keep A fun _ => rfl⟩
      rw [hv]; rfl
    · rename_i h1 h2 h3
      rw [Option.map_eq_some_iff] at h
      obtain ⟨v, hv, rfl⟩ := h
      refine ⟨⟨v, tab2, H2⟩, ?_, Like.keep A fun h => hH (.inl h)⟩
      rw [hv]; rfl
  | store t x y =>
    subst hF
    simp only [stepV, footV] at h A hH ⊢
    split at h
    · rename_i ob off v hx hy
      have hon : ptrAt ρ x = true := by simp [ptrAt, hx]
      obtain rfl := hH (.inl hon)
      split at h
      · rename_i hone
        rw [if_pos hone]
        split at h
        · rename_i us tab' H' hm
          rw [Option.map_eq_some_iff] at h
          obtain ⟨H3, hs, rfl⟩ := h
          obtain ⟨t2', e1, A1, r1, r2⟩ := moveAll_loc (K := [] ++ (keysAt ρ x ++ keysAt ρ y)) (W := keysAt ρ x ++ keysAt ρ y) (fun d hd => by simpa using hd)
            (fun d' hd' => List.mem_append_right _ (by rw [keysAt_some hy]; exact keys_cells hd')) A hm
          simp only [e1, hs]
          exact ⟨_, rfl, Like.hot' hon A1 r1 r2⟩
        · simp at h
      · simp at h
    · rename_i d g off v hx hy
      have hdw : d ∈ keysAt ρ x ++ keysAt ρ y := by simp [keysAt_some hx, keyOf, keyOf1]
      have ed := A.at_ d (by simpa using hdw)
      simp only [hx, hy, ed]
      split at h
      · rename_i g' cs hr
        split at h
        · rename_i hc
          simp only [Option.some.injEq] at h; subst h
          rw [if_pos hc]
          exact ⟨_, rfl, Like.cold' (by simp [ptrAt, hx]) (A.set _ _) (Rest.set _ hdw) (Rest.set _ hdw)⟩
        · simp at h
      · simp at h
    · rename_i d g i off s' v hx hy
      have hdw : d ∈ keysAt ρ x ++ keysAt ρ y := by simp [keysAt_some hx, keyOf, keyOf1]
      split at h
      · rename_i u tab' hu
        obtain ⟨t2', e1, A1, r1, r2⟩ := outT_loc (K := [] ++ (keysAt ρ x ++ keysAt ρ y)) (W := keysAt ρ x ++ keysAt ρ y) (fun d hd => by simpa using hd) (v := v) (fun d hd => by
          rw [keysAt_some hy]; exact List.mem_append_right _ hd) tab2 u tab' A hu
        simp only at e1
        have ed := A1.at_ d (by simpa using hdw)
        simp only [e1, ed]
        split at h
        · rename_i g' es sz hr
          split at h
          · rename_i hc
            rw [if_pos hc]
            split at h
            · rename_i e he
              split at h
              · rename_i e' hse
                simp only [Option.some.injEq] at h; subst h
                exact ⟨_, rfl, Like.cold' (by simp [ptrAt, hx]) (A1.set _ _) (r1.trans (Rest.set _ hdw)) (r2.trans (Rest.set _ hdw))⟩
              · simp at h
            · simp at h
          · simp at h
        · simp at h
      · simp at h
    · simp at h
  | makeSlice t l c =>
    subst hF
    simp only [stepV, footV, A.len] at h A hH ⊢
    split at h
    · rename_i d n m e hl hc he
      have hdw : d ∈ (some d : Option Nat).toList := by simp
      have ed := A.at_ d (by simp)
      split at h
      · rename_i z sz i hz hs hi
        split at h
        · rename_i hh
          simp only [Option.some.injEq] at h; subst h
          simp only [hl, hc, he, hz, hs, hi, if_pos hh, ed]
          exact ⟨_, rfl, Like.cold' rfl (A.set _ _) (Rest.set _ hdw) (Rest.set _ hdw)⟩
        · simp at h
      · simp at h
    · simp at h
  | makeFunc fn first captured =>
    subst hF
    simp only [stepV, footV] at h A hH ⊢
    split at h
    · rename_i f fs cs hf hc
      split at h
      · rename_i us tab' h1
        split at h
        · rename_i ws tab'' h2
          simp only [Option.some.injEq] at h; subst h
          obtain ⟨t1', e1, A1, r1, r2⟩ := outAll_loc (K := [] ++ (first.toList ++ captured.toList).flatMap (keysAt ρ)) (W := (first.toList ++ captured.toList).flatMap (keysAt ρ)) (fun d hd => by simpa using hd) (l := fs) (fun d hd => by
            rw [List.mem_flatMap] at hd
            obtain ⟨v, hv', hd⟩ := hd
            obtain ⟨x, hx, hxv⟩ := mapM_mem hf hv'
            exact List.mem_flatMap.2 ⟨x, List.mem_append_left _ hx, by rw [keysAt_some hxv]; exact hd⟩) tab2 us tab' A h1
          obtain ⟨t2', e2, A2, r3, r4⟩ := outAll_loc (K := [] ++ (first.toList ++ captured.toList).flatMap (keysAt ρ)) (W := (first.toList ++ captured.toList).flatMap (keysAt ρ)) (fun d hd => by simpa using hd) (l := cs) (fun d hd => by
            rw [List.mem_flatMap] at hd
            obtain ⟨v, hv', hd⟩ := hd
            obtain ⟨x, hx, hxv⟩ := mapM_mem hc hv'
            exact List.mem_flatMap.2 ⟨x, List.mem_append_right _ hx, by rw [keysAt_some hxv]; exact hd⟩) t1' ws tab'' A1 h2
          simp only at e1 e2
          simp only [hf, hc, e1, e2]
          exact ⟨_, rfl, Like.cold' rfl A2 (r1.trans r3) (r2.trans r4)⟩
        · simp at h
      · simp at h
    · simp at h
  | call c =>
    simp only [stepV] at h ⊢
    split at h
    · rename_i x y t t' hc ha ht
      split at h
      · rename_i he
        have e : footV pol keys dst ρ tab (.call c) = ⟨keysAt ρ y, dst.toList ++ keysAt ρ x, rowAt ρ x, rowAt ρ y⟩ := by simp [footV, hc, ha]
        rw [e] at hF; subst hF
        simp only [hc, ha, ht, if_pos he]
        split at h
        · rename_i ob off n s0 hx
          have hon : rowAt ρ x = true := by simp [rowAt, hx, rowS]
          obtain rfl := hH (.inl hon)
          exact appendH_loc h A hon (fun v hv d hd => by simp [keysAt_some hv, hd])
        rename_i hnr
        have hnr2 : rowAt ρ x = false := by
          unfold rowAt
          cases hrx : ρ x with
          | none => rfl
          | some v =>
            cases v with
            | val u => cases u <;> first | rfl | exact absurd hrx (hnr _ _ _ _)
            | _ => rfl
        refine (fun q => appendV_loc h A hnr2 q (fun v hv d hd => by simp [keysAt_some hv, hd]) (fun v hv d hd => by simp [keysAt_some hv, hd]) (fun v hv hr => hH (.inr (by simp [rowAt, hv, hr])))) (fun d hd => by simp [hd])
        -- (fun d hd => by simp [hd]) (fun v hv d hd => by simp [keysAt_some hv, hd]) (fun v hv d hd => by simp [keysAt_some hv, hd])
      · simp at h
    · rename_i x y t t' hc ha ht
      split at h
      · rename_i he
        have e : footV pol keys dst ρ tab (.call c) = ⟨keysAt ρ y, keysAt ρ x, false, false⟩ := by simp [footV, hc, ha]
        rw [e] at hF; subst hF
        simp only [hc, ha, ht, if_pos he]
        exact copyV_loc h A rfl (fun v hv d hd => by simp [keysAt_some hv, hd]) (fun v hv d hd => by simp [keysAt_some hv, hd])
      · simp at h
    · rename_i x t hc ha ht
      have e : footV pol keys dst ρ tab (.call c) = ⟨[], keysAt ρ x, false, false⟩ := by simp [footV, hc, ha]
      rw [e] at hF; subst hF
      exact clearV_loc h A rfl (fun v hv d hd => by simp [keysAt_some hv, hd])
    · rename_i m k t t' hc ha ht
      have e : footV pol keys dst ρ tab (.call c) = ⟨[], [], true, false⟩ := by simp [footV, hc, ha]
      rw [e] at hF; subst hF
      obtain rfl := hH (.inl rfl)
      simp only [mapSt, Option.map_eq_some_iff] at h
      obtain ⟨r, hr, rfl⟩ := h
      simp only [hc, ha, ht, hr, mapSt, Option.map_some]
      exact ⟨_, rfl, Like.hot' rfl A Rest.refl Rest.refl⟩
    · rename_i f hc
      have e : footV pol keys dst ρ tab (.call c) = ⟨[], dst.toList ++ keys (dst.getD 0) ++ c.args.toList.flatMap (keysAt ρ) ++ c.args.toList.flatMap (deepAt ρ tab), !pureAt pol ρ f, true⟩ := by simp [footV, hc]
      rw [e] at hF; subst hF
      obtain rfl := hH (.inr rfl)
      refine callsV_loc h A (fun hp fid first captured hf => by simpa [pureAt, hf] using hp) (fun d hd => List.mem_append_left _ (List.mem_append_left _ hd)) (fun v hv d hd => ?_)
      obtain ⟨x, hx, hxv⟩ := List.mem_map.1 hv
      rcases hd with hd | hd
      · exact List.mem_append_left _ (List.mem_append_right _ (List.mem_flatMap.2 ⟨x, hx, by rw [keysAt_some hxv]; exact hd⟩))
      · exact List.mem_append_right _ (List.mem_flatMap.2 ⟨x, hx, by simp only [deepAt, hxv]; exact hd⟩)
    · rename_i r name hc
      have e : footV pol keys dst ρ tab (.call c) = ⟨[], dst.toList ++ keys (dst.getD 0) ++ c.args.toList.flatMap (keysAt ρ) ++ c.args.toList.flatMap (deepAt ρ tab), true, true⟩ := by simp [footV, hc]
      rw [e] at hF; subst hF
      obtain rfl := hH (.inr rfl)
      refine callsV_loc h A (fun hp => by cases hp) (fun d hd => List.mem_append_left _ (List.mem_append_left _ hd)) (fun v hv d hd => ?_)
      obtain ⟨x, hx, hxv⟩ := List.mem_map.1 hv
      rcases hd with hd | hd
      · exact List.mem_append_left _ (List.mem_append_right _ (List.mem_flatMap.2 ⟨x, hx, by rw [keysAt_some hxv]; exact hd⟩))
      · exact List.mem_append_right _ (List.mem_flatMap.2 ⟨x, hx, by simp only [deepAt, hxv]; exact hd⟩)
    · rename_i h1 h2 h3 h4 h5 h6
      obtain ⟨s2, q1, q2⟩ := pure h
      refine ⟨s2, ?_, q2⟩
      exact q1
  | mapUpdate t m k x =>
    subst hF
    simp only [stepV, footV, mapSt, Option.map_eq_some_iff] at h A hH ⊢
    obtain ⟨q, hq, rfl⟩ := h
    obtain rfl := hH (.inl trivial)
    exact ⟨_, ⟨q, hq, rfl⟩, Like.hot' rfl A Rest.refl Rest.refl⟩
  | mapEntry t m k =>
    subst hF
    simp only [stepV, footV, mapSt, Option.map_eq_some_iff] at h A hH ⊢
    obtain ⟨q, hq, rfl⟩ := h
    obtain rfl := hH (.inl trivial)
    exact ⟨_, ⟨q, hq, rfl⟩, Like.hot' rfl A Rest.refl Rest.refl⟩
  | entryStore t m s x =>
    subst hF
    simp only [stepV, footV, mapSt, Option.map_eq_some_iff] at h A hH ⊢
    obtain ⟨q, hq, rfl⟩ := h
    obtain rfl := hH (.inl trivial)
    exact ⟨_, ⟨q, hq, rfl⟩, Like.hot' rfl A Rest.refl Rest.refl⟩
  | makeMap t r =>
    subst hF
    simp only [stepV, footV, mapSt, Option.map_eq_some_iff] at h A hH ⊢
    obtain ⟨q, hq, rfl⟩ := h
    obtain rfl := hH (.inl trivial)
    exact ⟨_, ⟨q, hq, rfl⟩, Like.hot' rfl A Rest.refl Rest.refl⟩
  | lookup t x i ok =>
    subst hF
    simp only [stepV, footV, Option.map_eq_some_iff] at h A hH ⊢
    obtain ⟨q, hq, rfl⟩ := h
    obtain rfl := hH (.inr trivial)
    exact ⟨_, ⟨q, hq, rfl⟩, Like.keep A fun _ => rfl⟩
  | typeAssert x xt a ok =>
    subst hF
    simp only [stepV, footV, Option.map_eq_some_iff] at h A hH ⊢
    obtain ⟨q, hq, rfl⟩ := h
    exact ⟨_, ⟨q, hq, rfl⟩, Like.keep A fun h => hH (.inl h)⟩
  | _ =>
    simp only [stepV] at h ⊢
    exact pure h

end
end Go.Vi

/-
  Two operations that are apart change places.
-/
namespace Go.Vi
set_option linter.unusedVariables false
set_option linter.unusedSimpArgs false

section
variable {P : Program}

theorem mapM_congr' {α β : Type} {f g : α → Option β} : ∀ {l : List α}, (∀ x, x ∈ l → f x = g x) → l.mapM f = l.mapM g
  | [], _ => rfl
  | a :: l, h => by rw [List.mapM_cons, List.mapM_cons, h a (by simp), mapM_congr' fun x hx => h x (List.mem_cons_of_mem _ hx)]

theorem partsOf_congr {ρ ρ2 : Operand → Option SV} {ps : List (Nat × Operand)} (h : ∀ x, x ∈ ps.map (·.2) → ρ x = ρ2 x) : partsOf ρ ps = partsOf ρ2 ps :=
  mapM_congr' fun p hp => by
    obtain ⟨i, x⟩ := p
    simp only [h x (List.mem_map.2 ⟨(i, x), hp, rfl⟩)]

theorem flatMap_congr' {α β : Type} {f g : α → List β} : ∀ {l : List α}, (∀ x, x ∈ l → f x = g x) → l.flatMap f = l.flatMap g
  | [], _ => rfl
  | a :: l, h => by rw [List.flatMap_cons, List.flatMap_cons, h a (by simp), flatMap_congr' fun x hx => h x (List.mem_cons_of_mem _ hx)]

theorem keysAt_congr {ρ ρ2 : Operand → Option SV} {x : Operand} (h : ρ x = ρ2 x) : keysAt ρ x = keysAt ρ2 x := by simp only [keysAt, h]
theorem deepAt_congr {ρ ρ2 : Operand → Option SV} {tab : List TC} {x : Operand} (h : ρ x = ρ2 x) : deepAt ρ tab x = deepAt ρ2 tab x := by simp only [deepAt, h]

theorem args_congr {ρ ρ2 : Operand → Option SV} {c : Call} (h : ∀ x, x ∈ c.operands → ρ x = ρ2 x) : ∀ x, x ∈ c.args.toList → ρ x = ρ2 x := fun x hx => h x (by
  simp only [Call.operands]
  have := Array.mem_toList_iff.1 hx
  split <;> simp [this])

theorem callee_congr {ρ ρ2 : Operand → Option SV} {c : Call} {f : Operand} (h : ∀ x, x ∈ c.operands → ρ x = ρ2 x) (hc : c.callee = .value f) : ρ f = ρ2 f := h f (by simp [Call.operands, hc])

theorem recv_congr {ρ ρ2 : Operand → Option SV} {c : Call} {r : Operand} {name : String} (h : ∀ x, x ∈ c.operands → ρ x = ρ2 x) (hc : c.callee = .invoke r name) : ρ r = ρ2 r := h r (by simp [Call.operands, hc])

theorem pureV_congr {ρ ρ2 : Operand → Option SV} {op : Op} (h : ∀ x, x ∈ op.operands → ρ x = ρ2 x) : pureV P ρ op = pureV P ρ2 op := by
  cases op <;> simp only [Op.operands] at h <;> simp only [pureV]
  case call c =>
    have ha := args_congr h
    split
    · rename_i x t hc hx ht
      have := ha x (by rw [hx]; simp)
      simp only [this]
    · rename_i hc
      rw [mapM_congr' (f := fun x => (ρ x).bind out) (g := fun x => (ρ2 x).bind out) fun x hx => by rw [ha x hx]]
    · rename_i hc
      rw [mapM_congr' (f := fun x => (ρ x).bind out) (g := fun x => (ρ2 x).bind out) fun x hx => by rw [ha x hx]]
    · rfl
  case slice t x lo hi mx => cases lo <;> cases hi <;> cases mx <;> simp_all [opt]
  all_goals (first | rfl | (simp_all; done))

theorem stepV_congr {pol : Pol} {keys : Nat → List Nat} {call : CallV} {dst : Option Tmp} {ρ ρ2 : Operand → Option SV} {tab : List TC} {H : Hp} {op : Op} (h : ∀ x, x ∈ op.operands → ρ x = ρ2 x) :
    stepV P pol keys call dst ρ tab H op = stepV P pol keys call dst ρ2 tab H op := by
  have hp := pureV_congr (P := P) h
  cases op <;> simp only [Op.operands] at h <;> simp only [stepV]
  case call c =>
    have ha := args_congr h
    split
    · rename_i x y t t' hc hx ht
      have h1 := ha x (by rw [hx]; simp)
      have h2 := ha y (by rw [hx]; simp)
      simp only [h1, h2]
    · rename_i x y t t' hc hx ht
      have h1 := ha x (by rw [hx]; simp)
      have h2 := ha y (by rw [hx]; simp)
      simp only [h1, h2]
    · rename_i x t hc hx ht
      have h1 := ha x (by rw [hx]; simp)
      simp only [h1]
    · rename_i m k t t' hc hx ht
      have h1 := ha m (by rw [hx]; simp)
      have h2 := ha k (by rw [hx]; simp)
      simp only [h1, h2]
    · rename_i f hc
      rw [callee_congr h hc, List.map_congr_left fun x hx => ha x hx]
    · rename_i r name hc
      rw [recv_congr h hc, List.map_congr_left fun x hx => ha x hx]
    · rw [hp]
  case build t ps => rw [partsOf_congr (ρ2 := ρ2) fun x hx => h x (by simpa using hx)]
  case buildSlice t n ps => rw [partsOf_congr (ρ2 := ρ2) fun x hx => h x (by simpa using hx)]
  case makeFunc fn first captured =>
    rw [mapM_congr' (f := ρ) (g := ρ2) (l := first.toList) fun x hx => h x (by simp [Array.mem_toList_iff.1 hx]), mapM_congr' (f := ρ) (g := ρ2) (l := captured.toList) fun x hx => h x (by simp [Array.mem_toList_iff.1 hx])]
  case load t x => rw [hp]; simp_all
  case makeMap t r => cases r <;> simp_all
  all_goals (first | rfl | (rw [hp]; done) | (simp_all; done))

theorem ptrAt_congr {ρ ρ2 : Operand → Option SV} {x : Operand} (h : ρ x = ρ2 x) : ptrAt ρ x = ptrAt ρ2 x := by simp only [ptrAt, h]
theorem rowAt_congr {ρ ρ2 : Operand → Option SV} {x : Operand} (h : ρ x = ρ2 x) : rowAt ρ x = rowAt ρ2 x := by simp only [rowAt, h]
theorem pureAt_congr {pol : Pol} {ρ ρ2 : Operand → Option SV} {x : Operand} (h : ρ x = ρ2 x) : pureAt pol ρ x = pureAt pol ρ2 x := by simp only [pureAt, h]

theorem footV_congr {pol : Pol} {keys : Nat → List Nat} {dst : Option Tmp} {ρ ρ2 : Operand → Option SV} {tab : List TC} {op : Op} (h : ∀ x, x ∈ op.operands → ρ x = ρ2 x) :
    footV pol keys dst ρ tab op = footV pol keys dst ρ2 tab op := by
  cases op <;> simp only [Op.operands] at h <;> simp only [footV]
  case call c =>
    have ha := args_congr h
    split
    · rename_i x y hc hx
      rw [keysAt_congr (ha x (by rw [hx]; simp)), keysAt_congr (ha y (by rw [hx]; simp)), rowAt_congr (ha x (by rw [hx]; simp)), rowAt_congr (ha y (by rw [hx]; simp))]
    · rename_i x y hc hx
      rw [keysAt_congr (ha x (by rw [hx]; simp)), keysAt_congr (ha y (by rw [hx]; simp))]
    · rename_i x hc hx
      rw [keysAt_congr (ha x (by rw [hx]; simp))]
    · rfl
    · rename_i f hc
      rw [flatMap_congr' fun x hx => keysAt_congr (ha x hx), flatMap_congr' fun x hx => deepAt_congr (tab := tab) (ha x hx), pureAt_congr (callee_congr h hc)]
    · rename_i r name hc
      rw [flatMap_congr' fun x hx => keysAt_congr (ha x hx), flatMap_congr' fun x hx => deepAt_congr (tab := tab) (ha x hx)]
    · rfl
  case box t x => rw [keysAt_congr (h x (by simp))]
  case load t x => rw [keysAt_congr (h x (by simp)), ptrAt_congr (h x (by simp))]
  case store t x y => rw [keysAt_congr (h x (by simp)), keysAt_congr (h y (by simp)), ptrAt_congr (h x (by simp))]
  case makeInterface t x => rw [keysAt_congr (h x (by simp))]
  case buildSlice t n ps =>
    rw [flatMap_congr' (g := fun p : Nat × Operand => keysAt ρ2 p.2) fun p hp => keysAt_congr (h p.2 (by simp; exact ⟨p.1, by simpa using hp⟩))]
  case makeFunc fn first captured =>
    rw [flatMap_congr' fun x hx => keysAt_congr (h x (by
      rw [List.mem_append] at hx
      simp only [Array.mem_append]
      exact hx.imp Array.mem_toList_iff.1 Array.mem_toList_iff.1))]

theorem footV_tab {pol : Pol} {keys : Nat → List Nat} {dst : Option Tmp} {ρ : Operand → Option SV} {tab tab2 : List TC} {op : Op}
    (A : Agree ((footV pol keys dst ρ tab op).reads ++ (footV pol keys dst ρ tab op).writes) tab tab2) : footV pol keys dst ρ tab2 op = footV pol keys dst ρ tab op := by
  cases op <;> try rfl
  case call c =>
    simp only [footV] at A ⊢
    split
    · rfl
    · rfl
    · rfl
    · rfl
    · rename_i f hc
      simp only [hc] at A
      rw [flatMap_congr' (f := deepAt ρ tab2) (g := deepAt ρ tab) fun x hx => ?_]
      unfold deepAt
      split
      · rename_i v hv
        cases v with
        | loc d g off =>
          have := A.at_ d (by
            simp only [List.nil_append, List.mem_append]
            left; right
            exact List.mem_flatMap.2 ⟨x, hx, by simp [keysAt_some hv, keyOf, keyOf1]⟩)
          simp only [deepOf, this]
        | _ => rfl
      · rfl
    · rename_i r name hc
      simp only [hc] at A
      rw [flatMap_congr' (f := deepAt ρ tab2) (g := deepAt ρ tab) fun x hx => ?_]
      unfold deepAt
      split
      · rename_i v hv
        cases v with
        | loc d g off =>
          have := A.at_ d (by
            simp only [List.nil_append, List.mem_append]
            left; right
            exact List.mem_flatMap.2 ⟨x, hx, by simp [keysAt_some hv, keyOf, keyOf1]⟩)
          simp only [deepOf, this]
        | _ => rfl
      · rfl
    · rfl

end
end Go.Vi

/-
  Two operations that are apart change places (2).
-/
namespace Go.Vi
set_option linter.unusedVariables false
set_option linter.unusedSimpArgs false

def putS (slots : List SV) (dst : Option Tmp) (v : SV) : List SV :=
  match dst with
  | some d => slots.set d v
  | none => slots

theorem Fr.put_eq (fr : Fr) (dst : Option Tmp) (v : SV) : fr.put dst v = ⟨putS fr.slots dst v, fr.tab⟩ := by cases dst <;> rfl

def footOf (pol : Pol) (keys : Nat → List Nat) (ops : Array Oper) (o : Oper) (fr : Fr) : Foot :=
  if Region.wanted o (yieldedV ops fr.slots) then footV pol keys o.dst (ev fr.slots) fr.tab o.op else ⟨[], [], false, false⟩

/-- an operation sees the same -/
structure Sees (ops : Array Oper) (o : Oper) (s s2 : List SV) : Prop where
  ev : ∀ x, x ∈ o.op.operands → ev s2 x = ev s x
  wanted : Region.wanted o (yieldedV ops s2) = Region.wanted o (yieldedV ops s)

theorem Sees.put {ops : Array Oper} {o : Oper} {s : List SV} {dst : Option Tmp} {v : SV} (h : ∀ d, dst = some d → d ∉ o.looksAt ops) : Sees ops o s (putS s dst v) := by
  cases dst with
  | none => exact ⟨fun _ _ => rfl, rfl⟩
  | some d =>
    have hd := h d rfl
    refine ⟨fun x hx => ?_, ?_⟩
    · cases x with
      | tmp t =>
        have : d ≠ t := fun e => hd (by
          subst e
          exact List.mem_append_left _ (List.mem_filterMap.2 ⟨.tmp d, by simpa using hx, rfl⟩))
        simp [Vi.ev, putS, List.getElem?_set_ne this]
      | _ => rfl
    · unfold Region.wanted
      cases hg : o.guard with
      | none => rfl
      | some gw =>
        obtain ⟨g, want⟩ := gw
        have hy : yieldedV ops (putS s (some d) v) g = yieldedV ops s g := by
          unfold yieldedV
          cases ht : (ops[g]?).bind (·.dst) with
          | none => rfl
          | some t =>
            have hne : d ≠ t := fun e => hd (by subst e; simp [Oper.looksAt, hg, ht])
            simp [putS, List.getElem?_set_ne hne]
        simp only [hy]

theorem Sees.symm {ops : Array Oper} {o : Oper} {s s2 : List SV} (h : Sees ops o s s2) : Sees ops o s2 s := ⟨fun x hx => (h.ev x hx).symm, h.wanted.symm⟩

section
variable {P : Program} {pol : Pol} {keys : Nat → List Nat} {call : CallV} {ops : Array Oper}

structure OpLike (F : Foot) (dst : Option Tmp) (fr fr' frB frB' : Fr) (H H' HB HB' : Hp) : Prop where
  v : ∃ v, fr'.slots = putS fr.slots dst v ∧ frB'.slots = putS frB.slots dst v
  agree : Agree (F.reads ++ F.writes) fr'.tab frB'.tab
  rest : Rest F.writes fr.tab fr'.tab
  rest2 : Rest F.writes frB.tab frB'.tab
  cold : F.heap = false → H' = H ∧ HB' = HB
  hot : F.heap = true → HB' = H'

theorem opV_like {o : Oper} {fr fr' frB : Fr} {H H' HB : Hp} (h : opV P pol keys call ops o fr H = some (fr', H')) (S : Sees ops o fr.slots frB.slots) (A : Agree ((footOf pol keys ops o fr).reads ++ (footOf pol keys ops o fr).writes) fr.tab frB.tab)
    (hH : (footOf pol keys ops o fr).heap = true ∨ (footOf pol keys ops o fr).hr = true → HB = H) :
    footOf pol keys ops o frB = footOf pol keys ops o fr ∧ ∃ frB' HB', opV P pol keys call ops o frB HB = some (frB', HB') ∧ OpLike (footOf pol keys ops o fr) o.dst fr fr' frB frB' H H' HB HB' := by
  unfold footOf at A hH ⊢
  unfold opV at h ⊢
  rw [S.wanted]
  by_cases hw : Region.wanted o (yieldedV ops fr.slots) = true
  · rw [if_pos hw] at A hH h ⊢
    rw [if_pos hw, if_pos hw]
    have hρ : ∀ x, x ∈ o.op.operands → ev frB.slots x = ev fr.slots x := S.ev
    refine ⟨by rw [footV_congr hρ]; exact footV_tab A, ?_⟩
    split at h
    · rename_i s hs
      simp only [Option.some.injEq, Prod.mk.injEq] at h
      obtain ⟨rfl, rfl⟩ := h
      obtain ⟨s2, e, L⟩ := stepV_loc hs A hH
      rw [stepV_congr hρ, e]
      refine ⟨_, _, rfl, ⟨⟨s.v, ?_, ?_⟩, ?_, ?_, ?_, L.cold, L.hot⟩⟩
      · rw [Fr.put_eq]
      · rw [Fr.put_eq, L.v]
      · rw [Fr.put_tab, Fr.put_tab]; exact L.agree
      · rw [Fr.put_tab]; exact L.rest
      · rw [Fr.put_tab]; exact L.rest2
    · simp at h
  · rw [if_neg hw] at A hH h ⊢
    rw [if_neg hw, if_neg hw]
    refine ⟨rfl, ?_⟩
    simp only [Option.some.injEq, Prod.mk.injEq] at h
    obtain ⟨rfl, rfl⟩ := h
    refine ⟨_, _, rfl, ⟨⟨.val .undef, ?_, ?_⟩, ?_, ?_, ?_, fun _ => ⟨rfl, rfl⟩, fun h => by cases h⟩⟩
    · rw [Fr.put_eq]
    · rw [Fr.put_eq]
    · rw [Fr.put_tab, Fr.put_tab]; exact A
    · rw [Fr.put_tab]; exact Rest.refl
    · rw [Fr.put_tab]; exact Rest.refl

theorem tab_ext {t t2 : List TC} (hl : t2.length = t.length) (h : ∀ d, tget t2 d = tget t d) : t2 = t := by
  apply List.ext_getElem hl
  intro i h1 h2
  have := h i
  simp only [tget, List.getD_eq_getElem?_getD, List.getElem?_eq_getElem h1, List.getElem?_eq_getElem h2, Option.getD_some] at this
  exact this

theorem Foot.apart_spec {a b : Foot} (h : a.apart b = true) : (∀ d, d ∈ a.writes → d ∉ b.writes ∧ d ∉ b.reads) ∧ (∀ d, d ∈ b.writes → d ∉ a.reads) ∧ ¬ (a.heap = true ∧ (b.heap = true ∨ b.hr = true)) ∧ ¬ (b.heap = true ∧ (a.heap = true ∨ a.hr = true)) := by
  simp only [Foot.apart, Bool.and_eq_true, List.all_eq_true, Bool.not_eq_true', List.contains_eq_mem, decide_eq_false_iff_not, Bool.and_eq_false_iff, Bool.or_eq_false_iff] at h
  refine ⟨h.1.1.1, h.1.1.2, fun hh => ?_, fun hh => ?_⟩
  · rcases h.1.2 with h | h
    · rw [hh.1] at h; cases h
    · rcases hh.2 with q | q
      · rw [q] at h; cases h.1
      · rw [q] at h; cases h.2
  · rcases hh.2 with q | q
    · rcases h.1.2 with h | h
      · rw [q] at h; cases h
      · rw [hh.1] at h; cases h.1
    · rcases h.2 with h | h
      · rw [hh.1] at h; cases h
      · rw [q] at h; cases h

/-- two neighbours that are apart change places -/
theorem opV_swap {oj oi : Oper} {fr fr1 fr2 : Fr} {H H1 H2 : Hp} (hj : opV P pol keys call ops oj fr H = some (fr1, H1)) (hi : opV P pol keys call ops oi fr1 H1 = some (fr2, H2)) (ho : oj.apart ops oi = true)
    (hf : (footOf pol keys ops oj fr).apart (footOf pol keys ops oi fr1) = true) :
    footOf pol keys ops oi fr = footOf pol keys ops oi fr1 ∧ ∃ fr1' H1', opV P pol keys call ops oi fr H = some (fr1', H1') ∧ footOf pol keys ops oj fr1' = footOf pol keys ops oj fr ∧ opV P pol keys call ops oj fr1' H1' = some (fr2, H2) := by
  obtain ⟨a1, a2, a3⟩ := Oper.apart_spec ho
  obtain ⟨f1, f2, f3, f4⟩ := Foot.apart_spec hf
  obtain ⟨_, _, _, _, Lj⟩ := opV_like hj ⟨fun _ _ => rfl, rfl⟩ ⟨rfl, fun _ _ => rfl⟩ (fun _ => rfl)
  obtain ⟨vj, hvj, _⟩ := Lj.v
  have Si : Sees ops oi fr1.slots fr.slots := by rw [hvj]; exact (Sees.put a1).symm
  have Ai : Agree ((footOf pol keys ops oi fr1).reads ++ (footOf pol keys ops oi fr1).writes) fr1.tab fr.tab := ⟨Lj.rest.len.symm, fun d hd => by
    refine (Lj.rest.at_ d fun hw => ?_).symm
    obtain ⟨q1, q2⟩ := f1 d hw
    rw [List.mem_append] at hd
    exact hd.elim q2 q1⟩
  have hHi : (footOf pol keys ops oi fr1).heap = true ∨ (footOf pol keys ops oi fr1).hr = true → H = H1 := fun h => by
    have : (footOf pol keys ops oj fr).heap = false := by
      cases hx : (footOf pol keys ops oj fr).heap with
      | false => rfl
      | true => exact absurd ⟨hx, h⟩ f3
    exact (Lj.cold this).1.symm
  obtain ⟨eF, fr1', H1', e1, Li⟩ := opV_like hi Si Ai hHi
  refine ⟨eF, fr1', H1', e1, ?_⟩
  obtain ⟨vi, hvi, hvi'⟩ := Li.v
  have Sj : Sees ops oj fr.slots fr1'.slots := by rw [hvi']; exact Sees.put a3
  have Aj : Agree ((footOf pol keys ops oj fr).reads ++ (footOf pol keys ops oj fr).writes) fr.tab fr1'.tab := ⟨Li.rest2.len, fun d hd => by
    refine Li.rest2.at_ d fun hw => ?_
    rw [List.mem_append] at hd
    rcases hd with hd | hd
    · exact f2 d hw hd
    · exact (f1 d hd).1 hw⟩
  have hHj : (footOf pol keys ops oj fr).heap = true ∨ (footOf pol keys ops oj fr).hr = true → H1' = H := fun h => by
    have : (footOf pol keys ops oi fr1).heap = false := by
      cases hx : (footOf pol keys ops oi fr1).heap with
      | false => rfl
      | true => exact absurd ⟨hx, h⟩ f4
    exact (Li.cold this).2
  obtain ⟨eF2, fr2', H2', e2, Lj2⟩ := opV_like hj Sj Aj hHj
  refine ⟨eF2, ?_⟩
  obtain ⟨vj', hvj1, hvj2⟩ := Lj2.v
  have hs : fr2'.slots = fr2.slots := by
    rw [hvj2, hvi', hvi, hvj1]
    cases hdj : oj.dst with
    | none => rfl
    | some dj =>
      cases hdi : oi.dst with
      | none => rfl
      | some di =>
        have hne : dj ≠ di := fun e => a2 dj hdj (by rw [hdi, e])
        simp only [putS]
        exact (List.set_comm _ _ hne).symm
  have ht : fr2'.tab = fr2.tab := by
    refine tab_ext (Lj2.rest2.len.trans (Li.rest2.len.trans (Lj.rest.len.symm.trans Li.rest.len.symm))) fun d => ?_
    by_cases hwi : d ∈ (footOf pol keys ops oi fr1).writes
    · have hnj : d ∉ (footOf pol keys ops oj fr).writes := fun h => (f1 d h).1 hwi
      rw [Lj2.rest2.at_ d hnj]
      exact Li.agree.at_ d (List.mem_append_right _ hwi)
    · by_cases hwj : d ∈ (footOf pol keys ops oj fr).writes
      · rw [Lj2.agree.at_ d (List.mem_append_right _ hwj), Li.rest.at_ d hwi]
      · rw [Lj2.rest2.at_ d hwj, Li.rest2.at_ d hwi, Li.rest.at_ d hwi, Lj.rest.at_ d hwj]
  have hh : H2' = H2 := by
    cases hxj : (footOf pol keys ops oj fr).heap with
    | true =>
      have hxi : (footOf pol keys ops oi fr1).heap = false := by
        cases hx : (footOf pol keys ops oi fr1).heap with
        | false => rfl
        | true => exact absurd ⟨hxj, .inl hx⟩ f3
      rw [Lj2.hot hxj, (Li.cold hxi).1]
    | false =>
      rw [(Lj2.cold hxj).2]
      cases hxi : (footOf pol keys ops oi fr1).heap with
      | true => exact Li.hot hxi
      | false => rw [(Li.cold hxi).2, (Li.cold hxi).1, (Lj.cold hxj).1]
  rw [e2]
  obtain ⟨s2, t2⟩ := fr2'
  obtain ⟨s3, t3⟩ := fr2
  simp only at hs ht
  rw [hs, ht, hh]

theorem feetV_cons {o : Oper} {l : List Oper} {fr fr' : Fr} {H H' : Hp} (h : opV P pol keys call ops o fr H = some (fr', H')) :
    feetV P pol keys call ops (o :: l) fr H = footOf pol keys ops o fr :: feetV P pol keys call ops l fr' H' := by
  simp only [feetV, h]; rfl

theorem feetV_len : ∀ {l : List Oper} {fr : Fr} {H : Hp} {r : Fr × Hp}, opsV P pol keys call ops l fr H = some r → (feetV P pol keys call ops l fr H).length = l.length
  | [], _, _, _, _ => rfl
  | o :: l, fr, H, r, h => by
    simp only [opsV] at h
    split at h
    · rename_i fr' H' h1
      rw [feetV_cons h1, List.length_cons, List.length_cons, feetV_len h]
    · simp at h

/-- an operation that is apart from all ahead of it goes to the head -/
theorem bubble {oi : Oper} {B : List Oper} {r : Fr × Hp} : ∀ {A : List Oper} {fr : Fr} {H : Hp}, opsV P pol keys call ops (A ++ oi :: B) fr H = some r →
    (∀ (k : Nat) (o : Oper) (f fi : Foot), A[k]? = some o → (feetV P pol keys call ops (A ++ oi :: B) fr H)[k]? = some f → (feetV P pol keys call ops (A ++ oi :: B) fr H)[A.length]? = some fi → o.apart ops oi = true ∧ f.apart fi = true) →
    opsV P pol keys call ops (oi :: (A ++ B)) fr H = some r ∧
      ∃ fi FA FB, feetV P pol keys call ops (A ++ oi :: B) fr H = FA ++ fi :: FB ∧ FA.length = A.length ∧ feetV P pol keys call ops (oi :: (A ++ B)) fr H = fi :: (FA ++ FB)
  | [], fr, H, h, _ => by
    refine ⟨h, ?_⟩
    simp only [opsV, List.nil_append] at h
    split at h
    · rename_i fr1 H1 h1
      exact ⟨_, [], _, feetV_cons h1, rfl, feetV_cons h1⟩
    · simp at h
  | a :: A, fr, H, h, hap => by
    simp only [List.cons_append, opsV] at h
    split at h
    · rename_i fr1 H1 h1
      have hfeet : feetV P pol keys call ops (a :: A ++ oi :: B) fr H = footOf pol keys ops a fr :: feetV P pol keys call ops (A ++ oi :: B) fr1 H1 := feetV_cons h1
      rw [hfeet] at hap
      obtain ⟨q1, fi, FA, FB, q2, q3, q4⟩ := bubble (A := A) h fun k o f fi h1 h2 h3 => hap (k + 1) o f fi (by simpa using h1) (by simpa using h2) (by simpa using h3)
      simp only [opsV] at q1
      split at q1
      · rename_i fr2 H2 h2
        have hfi : footOf pol keys ops oi fr1 = fi := by
          rw [feetV_cons h2] at q4
          simp only [List.cons.injEq] at q4
          exact q4.1
        obtain ⟨p1, p2⟩ := hap 0 a (footOf pol keys ops a fr) fi rfl rfl (by
          simp only [List.length_cons, List.getElem?_cons_succ]
          rw [q2, ← q3]; simp)
        obtain ⟨e1, fr1', H1', e2, e3, e4⟩ := opV_swap h1 h2 p1 (by rw [hfi]; exact p2)
        refine ⟨?_, fi, footOf pol keys ops a fr :: FA, FB, ?_, by simp [q3], ?_⟩
        · simp only [opsV, List.cons_append, e2, e4]
          exact q1
        · rw [hfeet, q2]; rfl
        · rw [feetV_cons e2, List.cons_append, feetV_cons e4, e1, hfi, e3]
          rw [feetV_cons h2] at q4
          simp only [List.cons.injEq] at q4
          rw [q4.2]; rfl
      · simp at q1
    · simp at h

end
end Go.Vi

/-
  All orders of a drawn region lead to the same end.
-/
namespace Go.Vi
set_option linter.unusedVariables false
set_option linter.unusedSimpArgs false

section
variable {α : Type}

theorem fm_len {g : Nat → Option α} : ∀ {l : List Nat}, (∀ j, j ∈ l → (g j).isSome = true) → (l.filterMap g).length = l.length
  | [], _ => rfl
  | a :: l, h => by
    have ha := h a (by simp)
    cases hg : g a with
    | none => rw [hg] at ha; cases ha
    | some x => rw [List.filterMap_cons, hg, List.length_cons, List.length_cons, fm_len fun j hj => h j (List.mem_cons_of_mem _ hj)]

theorem fm_get {g : Nat → Option α} : ∀ {l : List Nat}, (∀ j, j ∈ l → (g j).isSome = true) → ∀ k : Nat, (l.filterMap g)[k]? = (l[k]?).bind g
  | [], _, k => by simp
  | a :: l, h, k => by
    have ha := h a (by simp)
    cases hg : g a with
    | none => rw [hg] at ha; cases ha
    | some x =>
      rw [List.filterMap_cons, hg]
      cases k with
      | zero => simp [hg]
      | succ k => simp only [List.getElem?_cons_succ]; exact fm_get (fun j hj => h j (List.mem_cons_of_mem _ hj)) k
end

theorem mem_dedN {j : Nat} : ∀ {l : List Nat}, j ∈ dedN l → j ∈ l
  | [], h => h
  | a :: r, h => by
    simp only [dedN, consN] at h
    split at h
    · exact List.mem_cons_of_mem _ (mem_dedN h)
    · rcases List.mem_cons.1 h with rfl | h
      · exact List.mem_cons_self ..
      · exact List.mem_cons_of_mem _ (mem_dedN h)
def aboveStep (acc : List (List Nat)) (o : Oper) : List (List Nat) :=
  acc ++ [dedN ((o.after.toList.filter (Region.binds .any)).flatMap fun e => e.on :: acc.getD e.on [])]

theorem above_spec : ∀ (l : List Oper) (acc : List (List Nat)), (∀ i, i < acc.length → (l.foldl aboveStep acc).getD i [] = acc.getD i []) ∧
    ∀ (k : Nat) (o : Oper), l[k]? = some o → ∃ acc' : List (List Nat), acc'.length = acc.length + k ∧ (∀ i, i < acc.length + k → acc'.getD i [] = (l.foldl aboveStep acc).getD i []) ∧
      (l.foldl aboveStep acc).getD (acc.length + k) [] = dedN ((o.after.toList.filter (Region.binds .any)).flatMap fun e => e.on :: acc'.getD e.on [])
  | [], acc => ⟨fun _ _ => rfl, fun k o h => by simp at h⟩
  | a :: l, acc => by
    obtain ⟨h1, h2⟩ := above_spec l (aboveStep acc a)
    have hlen : (aboveStep acc a).length = acc.length + 1 := by simp [aboveStep]
    have hold : ∀ i, i < acc.length → (aboveStep acc a).getD i [] = acc.getD i [] := fun i hi => by
      simp [aboveStep, List.getD_eq_getElem?_getD, List.getElem?_append_left hi]
    refine ⟨fun i hi => ?_, fun k o hk => ?_⟩
    · rw [List.foldl_cons, h1 i (by omega), hold i hi]
    · cases k with
      | zero =>
        simp only [List.getElem?_cons_zero, Option.some.injEq] at hk
        subst hk
        refine ⟨acc, rfl, fun i hi => ?_, ?_⟩
        · rw [List.foldl_cons, h1 i (by omega), hold i (by omega)]
        · rw [List.foldl_cons, h1 _ (by omega), Nat.add_zero]
          simp [aboveStep, List.getD_eq_getElem?_getD]
      | succ k =>
        obtain ⟨acc', q1, q2, q3⟩ := h2 k o (by simpa using hk)
        refine ⟨acc', by omega, fun i hi => ?_, ?_⟩
        · rw [List.foldl_cons]; exact q2 i (by omega)
        · rw [List.foldl_cons, show acc.length + (k + 1) = (aboveStep acc a).length + k by omega]; exact q3

section
variable {ops : Array Oper}

def Closed (ops : Array Oper) (listed : Array Bool) : Prop :=
  ∀ (j : Nat) (o : Oper), ops[j]? = some o → listed.getD j false = true → ∀ e, e ∈ o.after → Region.binds .any e = true → listed.getD e.on false = true

theorem above_listed {listed : Array Bool} (hc : Closed ops listed) : ∀ (i : Nat) (o : Oper), ops[i]? = some o → (∀ e, e ∈ o.after → Region.binds .any e = true → listed.getD e.on false = true) →
    ∀ j, j ∈ (above ops).getD i [] → listed.getD j false = true := by
  intro i
  induction i using Nat.strongRecOn with
  | ind i ih =>
    intro o ho he j hj
    obtain ⟨_, h2⟩ := above_spec ops.toList []
    obtain ⟨acc', q1, q2, q3⟩ := h2 i o (by simpa using ho)
    simp only [List.length_nil, Nat.zero_add] at q1 q2 q3
    have : (above ops).getD i [] = dedN ((o.after.toList.filter (Region.binds .any)).flatMap fun e => e.on :: acc'.getD e.on []) := q3
    rw [this] at hj
    replace hj := mem_dedN hj
    rw [List.mem_flatMap] at hj
    obtain ⟨e, hem, hj⟩ := hj
    rw [List.mem_filter] at hem
    have hl := he e (Array.mem_toList_iff.1 hem.1) hem.2
    simp only [List.mem_cons] at hj
    rcases hj with rfl | hj
    · exact hl
    · by_cases hlt : e.on < i
      · rw [q2 e.on hlt] at hj
        have hsz : e.on < ops.size := by
          have := (Array.getElem?_eq_some_iff.1 ho).1; omega
        have ho' := Array.getElem?_eq_getElem hsz
        exact ih e.on hlt _ ho' (fun e' he' hb' => hc e.on _ ho' hl e' he' hb') j hj
      · rw [List.getD_eq_getElem?_getD, List.getElem?_eq_none (by omega)] at hj
        simp at hj

/-- what is still to be done -/
def rem (n : Nat) (listed : Array Bool) : List Nat := (List.range n).filter fun i => !listed.getD i true

theorem rem_split {n i : Nat} {listed : Array Bool} (hi : i < n) (hs : listed.size = n) (hl : listed.getD i true = false) :
    ∃ A B, rem n listed = A ++ i :: B ∧ rem n (listed.setIfInBounds i true) = A ++ B ∧ ∀ j, j ∈ A → j < i ∧ listed.getD j true = false := by
  obtain ⟨m, rfl⟩ : ∃ m, n = i + (1 + m) := ⟨n - i - 1, by omega⟩
  refine ⟨(List.range i).filter fun i => !listed.getD i true, ((List.range m).map (fun k => i + (1 + k))).filter fun i => !listed.getD i true, ?_, ?_, fun j hj => ?_⟩
  · unfold rem
    rw [List.range_add, List.filter_append, List.range_add]
    simp only [List.map_append, List.filter_append, List.map_map]
    congr 1
    have : (List.map (fun x => i + x) (List.range 1)).filter (fun i => !listed.getD i true) = [i] := by
      have hl' : listed[i]?.getD true = false := by simpa using hl
      simp [List.range_succ, hl']
    rw [this]
    rfl
  · unfold rem
    rw [List.range_add, List.filter_append, List.range_add]
    simp only [List.map_append, List.filter_append, List.map_map]
    have hi1 : (List.map (fun x => i + x) (List.range 1)).filter (fun j => !(listed.setIfInBounds i true).getD j true) = [] := by
      simp [List.range_succ, hi, hs]
    rw [hi1, List.nil_append]
    congr 1
    · refine List.filter_congr fun j hj => ?_
      rw [List.mem_range] at hj
      rw [getD_set_ne true (by omega)]
    · refine List.filter_congr fun j hj => ?_
      rw [List.mem_map] at hj
      obtain ⟨k, _, rfl⟩ := hj
      rw [getD_set_ne true (by simp only [Function.comp]; omega)]
  · rw [List.mem_filter, List.mem_range] at hj
    exact ⟨hj.1, by simpa using hj.2⟩

theorem append_split {α : Type} {A B A' B' : List α} {x x' : α} (h : A ++ x :: B = A' ++ x' :: B') (hl : A.length = A'.length) : A = A' ∧ x = x' ∧ B = B' := by
  obtain ⟨h1, h2⟩ := List.append_inj h hl
  simp only [List.cons.injEq] at h2
  exact ⟨h1, h2.1, h2.2⟩

variable {P : Program} {pol : Pol} {keys : Nat → List Nat} {call : CallV}

theorem orders {feet0 : List Foot} (hfl : feet0.length = ops.size) (hpairs : pairsOk ops feet0 = true) (hedges : edgesOk ops = true) {r : Fr × Hp} : ∀ (fuel t : Nat) (listed : Array Bool) (fr : Fr) (H : Hp),
    listed.size = ops.size → (rem ops.size listed).length ≤ fuel → Closed ops listed → opsV P pol keys call ops ((rem ops.size listed).filterMap (ops[·]?)) fr H = some r →
    feetV P pol keys call ops ((rem ops.size listed).filterMap (ops[·]?)) fr H = (rem ops.size listed).filterMap (feet0[·]?) →
    opsV P pol keys call ops ((Region.linearise.go .any ops fuel t listed []).filterMap (ops[·]?)) fr H = some r := by
  have hin : ∀ (listed : Array Bool) j, j ∈ rem ops.size listed → j < ops.size := fun listed j hj => by
    unfold rem at hj
    rw [List.mem_filter, List.mem_range] at hj
    exact hj.1
  have hsomeO : ∀ (l : List Nat), (∀ j, j ∈ l → j < ops.size) → ∀ j, j ∈ l → (ops[j]?).isSome = true := fun l h j hj => by
    rw [Array.getElem?_eq_getElem (h j hj)]; rfl
  have hsomeF : ∀ (l : List Nat), (∀ j, j ∈ l → j < ops.size) → ∀ j, j ∈ l → (feet0[j]?).isSome = true := fun l h j hj => by
    rw [List.getElem?_eq_getElem (by rw [hfl]; exact h j hj)]; rfl
  have fin : ∀ (listed : Array Bool) (fr : Fr) (H : Hp), rem ops.size listed = [] → opsV P pol keys call ops ((rem ops.size listed).filterMap (ops[·]?)) fr H = some r → opsV P pol keys call ops [] fr H = some r := fun listed fr H hr h => by
    rw [hr] at h; exact h
  intro fuel
  induction fuel with
  | zero =>
    intro t listed fr H hs hle hcl hops hfeet
    have hr : rem ops.size listed = [] := List.eq_nil_of_length_eq_zero (by omega)
    exact fin listed fr H hr hops
  | succ fuel ih =>
    intro t listed fr H hs hle hcl hops hfeet
    simp only [Region.linearise.go]
    change opsV P pol keys call ops ((match (Region.ready .any ops listed)[t % (Region.ready .any ops listed).length]? with
      | some i => Region.linearise.go .any ops fuel (t / (Region.ready .any ops listed).length) (listed.setIfInBounds i true) [i]
      | none => [].reverse).filterMap (ops[·]?)) fr H = some r
    cases hi : (Region.ready .any ops listed)[t % (Region.ready .any ops listed).length]? with
    | none =>
      have hnil : Region.ready .any ops listed = [] := by
        cases hr : Region.ready .any ops listed with
        | nil => rfl
        | cons x xs =>
          rw [hr] at hi
          have hlt : t % (x :: xs).length < (x :: xs).length := Nat.mod_lt _ (by simp)
          simp at hi
          simp at hlt
          omega
      have hr : rem ops.size listed = [] := by
        cases hr : rem ops.size listed with
        | nil => rfl
        | cons i R =>
          exfalso
          have him : i ∈ rem ops.size listed := by rw [hr]; simp
          have hin' := hin listed i him
          have hl : listed.getD i true = false := by
            unfold rem at him
            rw [List.mem_filter] at him
            simpa using him.2
          have ho := Array.getElem?_eq_getElem hin'
          have : i ∈ Region.ready .any ops listed := mem_ready.2 ⟨hl, _, ho, fun e he hb => ?_⟩
          · rw [hnil] at this; simp at this
          · simp only [edgesOk, Bool.and_eq_true, List.all_eq_true, List.mem_range] at hedges
            have h1 := hedges.2 i hin'
            rw [ho] at h1
            simp only [Array.all_eq_true_iff_forall_mem] at h1
            have h2 := h1 e he
            rw [hb] at h2
            simp only [Bool.not_true, Bool.false_or, decide_eq_true_eq] at h2
            -- the first that is left
            obtain ⟨A, B, s1, _, s3⟩ := rem_split hin' hs hl
            by_cases hle : listed.getD e.on true = false
            · obtain ⟨A', B', u1, _, _⟩ := rem_split (show e.on < ops.size by omega) hs hle
              have hm : e.on ∈ rem ops.size listed := by rw [u1]; simp
              rw [s1] at hr
              cases A with
              | nil =>
                -- the list grows
                have hsorted : (rem ops.size listed).Pairwise (· < ·) := by
                  unfold rem
                  exact List.Pairwise.filter _ List.pairwise_lt_range
                rw [s1] at hsorted hm
                simp only [List.nil_append, List.pairwise_cons, List.mem_cons] at hsorted hm
                rcases hm with hm | hm
                · omega
                · have := hsorted.1 e.on hm; omega
              | cons x A =>
                simp only [List.cons_append, List.cons.injEq] at hr
                have := (s3 x (by simp)).1
                omega
            · have hlt : e.on < listed.size := by omega
              have ht : listed.getD e.on true = true := by simpa using hle
              simp [hlt] at ht ⊢
              exact ht
      simp only [List.reverse_nil, List.filterMap_nil]
      exact fin listed fr H hr hops
    | some i =>
      obtain ⟨hl, oi, ho, he⟩ := mem_ready.1 (List.mem_of_getElem? hi)
      have hin' : i < ops.size := (Array.getElem?_eq_some_iff.1 ho).1
      obtain ⟨A, B, s1, s2, s3⟩ := rem_split hin' hs hl
      have hAB : ∀ j, j ∈ A ++ i :: B → j < ops.size := fun j hj => hin listed j (by rw [s1]; exact hj)
      have hA : ∀ j, j ∈ A → j < ops.size := fun j hj => hAB j (List.mem_append_left _ hj)
      rw [s1, List.filterMap_append, List.filterMap_cons, ho] at hops hfeet
      have hfi : feet0[i]? = some feet0[i] := List.getElem?_eq_getElem (by rw [hfl]; exact hin')
      rw [List.filterMap_append (l := A), List.filterMap_cons, hfi] at hfeet
      have hlA : (A.filterMap (ops[·]?)).length = A.length := fm_len (hsomeO A hA)
      have hlF : (A.filterMap (feet0[·]?)).length = A.length := fm_len (hsomeF A hA)
      obtain ⟨b1, fi, FA, FB, b2, b3, b4⟩ := bubble hops fun k o f fi h1 h2 h3 => by
        rw [fm_get (hsomeO A hA)] at h1
        cases hAk : A[k]? with
        | none => rw [hAk] at h1; cases h1
        | some j =>
          rw [hAk] at h1
          simp only [Option.bind_some] at h1
          have hjA := List.mem_of_getElem? hAk
          have hkl := (List.getElem?_eq_some_iff.1 hAk).1
          rw [hfeet] at h2 h3
          rw [List.getElem?_append_left (by omega), fm_get (hsomeF A hA), hAk] at h2
          simp only [Option.bind_some] at h2
          rw [List.getElem?_append_right (by omega)] at h3
          simp only [hlA, hlF, Nat.sub_self, List.getElem?_cons_zero, Option.some.injEq] at h3
          simp only [pairsOk, List.all_eq_true, List.mem_range, Bool.or_eq_true] at hpairs
          obtain ⟨hji, hjl⟩ := s3 j hjA
          have hp := hpairs i hin' j hji
          rcases hp with hp | hp
          · exfalso
            have hp' : j ∈ (above ops).getD i [] := by simpa using hp
            have := above_listed hcl i oi ho he j hp'
            have hlt : j < listed.size := by rw [hs]; exact hA j hjA
            simp [hlt] at this hjl
            rw [this] at hjl; cases hjl
          · rw [ho, h1, hfi, h2] at hp
            simp only [Bool.and_eq_true] at hp
            rw [← h3]; exact hp
      rw [hfeet] at b2
      obtain ⟨c1, c2, c3⟩ := append_split b2 (by rw [hlF, b3, hlA])
      subst c1; subst c3
      simp only
      rw [linearise_go_acc, List.reverse_singleton, List.singleton_append, List.filterMap_cons, ho]
      simp only [opsV] at b1 ⊢
      split at b1
      · rename_i fr1 H1 h1
        rw [feetV_cons h1] at b4
        simp only [List.cons.injEq] at b4
        refine ih _ _ fr1 H1 (by simpa using hs) ?_ ?_ ?_ ?_
        · rw [s2]; rw [s1] at hle; simp at hle ⊢; omega
        · intro j o hj hjl e hem hb
          by_cases hji : j = i
          · subst hji
            rw [ho] at hj
            simp only [Option.some.injEq] at hj
            subst hj
            exact getD_set_true (he e hem hb)
          · rw [getD_set_ne false (Ne.symm hji)] at hjl
            exact getD_set_true (hcl j o hj hjl e hem hb)
        · rw [s2, List.filterMap_append]; exact b1
        · rw [s2, List.filterMap_append, List.filterMap_append]; exact b4.2
      · simp at b1

theorem foot_keyless {pol : Pol} {keys : Nat → List Nat} {dst : Option Tmp} {ρ : Operand → Option SV} {tab : List TC} {op : Op} (h : keyless op = true) : footV pol keys dst ρ tab op = ⟨[], [], false, false⟩ := by
  cases op <;> first | rfl | (simp [keyless] at h; done) | skip
  case call c =>
    simp only [footV]
    split
    · rename_i hc _; simp [keyless, hc] at h
    · rename_i hc _; simp [keyless, hc] at h
    · rename_i hc _; simp [keyless, hc] at h
    · rename_i hc; simp [keyless, hc] at h
    · rename_i hc; simp [keyless, hc] at h
    · rename_i hc; simp [keyless, hc] at h
    · rfl

theorem foot_reads {pol : Pol} {keys : Nat → List Nat} {dst : Option Tmp} {ρ : Operand → Option SV} {tab : List TC} {op : Op} (h : readsOnly op = true) : (footV pol keys dst ρ tab op).writes = [] ∧ (footV pol keys dst ρ tab op).heap = false := by
  by_cases hk : keyless op = true
  · rw [foot_keyless hk]; exact ⟨rfl, rfl⟩
  · cases op <;> first | exact ⟨rfl, rfl⟩ | exact absurd h hk

theorem feetV_get : ∀ {l : List Oper} {fr : Fr} {H : Hp} {i : Nat} {f : Foot}, (feetV P pol keys call ops l fr H)[i]? = some f → ∃ o fr', l[i]? = some o ∧ f = footOf pol keys ops o fr'
  | [], fr, H, i, f, h => by simp [feetV] at h
  | o :: l, fr, H, 0, f, h => by
    simp only [feetV, List.getElem?_cons_zero, Option.some.injEq] at h
    exact ⟨o, fr, rfl, h.symm⟩
  | o :: l, fr, H, i + 1, f, h => by
    simp only [feetV, List.getElem?_cons_succ] at h
    split at h
    · rename_i fr' H' h1
      obtain ⟨o', fr2, q1, q2⟩ := feetV_get h
      exact ⟨o', fr2, by simpa using q1, q2⟩
    · simp at h

theorem calm_pairs (hc : calmB ops = true) {fr : Fr} {H : Hp} {r : Fr × Hp} (h : opsV P pol keys call ops ops.toList fr H = some r) : pairsOk ops (feetV P pol keys call ops ops.toList fr H) = true := by
  have hl := feetV_len h
  simp only [calmB, pairsOk, List.all_eq_true, List.mem_range, Bool.or_eq_true] at hc ⊢
  intro i hi j hj
  rcases hc i hi j hj with h1 | h1
  · exact .inl h1
  · right
    have hjs : j < ops.size := by omega
    obtain ⟨fi, hfi⟩ : ∃ f, (feetV P pol keys call ops ops.toList fr H)[i]? = some f := ⟨_, List.getElem?_eq_getElem (by rw [hl]; simpa using hi)⟩
    obtain ⟨fj, hfj⟩ : ∃ f, (feetV P pol keys call ops ops.toList fr H)[j]? = some f := ⟨_, List.getElem?_eq_getElem (by rw [hl]; simpa using hjs)⟩
    obtain ⟨oi, fri, a1, a2⟩ := feetV_get hfi
    obtain ⟨oj, frj, b1, b2⟩ := feetV_get hfj
    have a1' : ops[i]? = some oi := by simpa using a1
    have b1' : ops[j]? = some oj := by simpa using b1
    rw [a1', b1'] at h1 ⊢
    rw [hfi, hfj]
    simp only [Bool.and_eq_true, Bool.or_eq_true] at h1 ⊢
    refine ⟨h1.1, ?_⟩
    have kl : ∀ {o : Oper} {fr : Fr}, keyless o.op = true → footOf pol keys ops o fr = ⟨[], [], false, false⟩ := fun hk => by
      unfold footOf
      split
      · exact foot_keyless hk
      · rfl
    have rd : ∀ {o : Oper} {fr : Fr}, readsOnly o.op = true → (footOf pol keys ops o fr).writes = [] ∧ (footOf pol keys ops o fr).heap = false := fun hk => by
      unfold footOf
      split
      · exact foot_reads hk
      · exact ⟨rfl, rfl⟩
    rcases h1.2 with (h2 | h2) | h2
    · rw [a2, kl h2]
      simp [Foot.apart]
    · rw [b2, kl h2]
      simp [Foot.apart]
    · have q1 := rd (fr := fri) h2.1
      have q2 := rd (fr := frj) h2.2
      rw [a2, b2]
      simp [Foot.apart, q1.1, q1.2, q2.1, q2.2]

theorem drawn_ok : DrawnOk P pol keys call := by
  intro ops fr fr' H H' t he hp0 h
  have hp : pairsOk ops (feetV P pol keys call ops ops.toList fr H) = true := hp0.elim (fun hc => calm_pairs hc h) id
  have hrem : rem ops.size (Array.replicate ops.size false) = List.range ops.size := by
    unfold rem
    rw [List.filter_eq_self]
    intro i hi
    rw [List.mem_range] at hi
    simp [hi]
  have hlen := feetV_len h
  simp only [Region.schedule, Bool.true_or, if_true]
  refine orders (feet0 := feetV P pol keys call ops ops.toList fr H) (by rw [hlen]; simp) hp he ops.size t _ fr H (by simp) (by rw [hrem]; simp) ?_ ?_ ?_
  · intro j o hj hjl
    have : j < ops.size := (Array.getElem?_eq_some_iff.1 hj).1
    simp [this] at hjl
  · rw [hrem, range_ops]; exact h
  · rw [hrem, range_ops]
    have : ∀ (l : List Foot) (n : Nat), l.length = n → (List.range n).filterMap (l[·]?) = l := by
      intro l
      induction l with
      | nil => intro n hn; subst hn; rfl
      | cons x l ih =>
        intro n hn
        subst hn
        rw [List.length_cons, List.range_succ_eq_map, List.filterMap_cons]
        simp only [List.getElem?_cons_zero, List.filterMap_map, Function.comp_def, List.getElem?_cons_succ]
        rw [ih _ rfl]
    exact (this _ _ (by rw [hlen]; simp)).symm

end
end Go.Vi

/-
  From the interpreter's answer to a call at the top.
-/
namespace Go.Vi
open Go.RowKit
set_option linter.unusedVariables false
set_option linter.unusedSimpArgs false

/-- all that is there is looked at as it stands -/
def wholeG (W : World) : Nat → Nat := fun b => match W.heap[b]? with | some (.cells c _ _) => c.size | _ => 0

/-- a value of the interpreter stands for a value of the world W, where nobody has objects -/
abbrev WR (W : World) : VV → Value → Prop := VRel (fun _ => ⟨0, 0, 0⟩) 0 (wholeG W) W

theorem wholeG_cell {W : World} {b o : Nat} {v : Value} (h : cellAt W b o = some v) : o < wholeG W b := by
  simp only [cellAt, World.cell?] at h
  unfold wholeG
  cases hb : W.heap[b]? with
  | none => simp [hb] at h
  | some ob =>
    cases ob with
    | cells c ty fr =>
      simp [hb] at h
      exact (Array.getElem?_eq_some_iff.1 h).1
    | _ => simp [hb] at h

theorem callV_top {P : Program} {pol : Pol} (hm : P.follows .mixedOrders = true) (hst : ∀ f fn c, P.funcs[f]? = some fn → fn.body = some c → pol.dyn f = true ∨ staticOk c = true) (hext : ExtOk P pol) {k : Nat} {f : FuncId} {us : List VV} {u : VV} {H' : Hp}
    (h : callV P pol k f (us.map .val) (Hp.bare 0) = some ([.val u], [], H')) (hu : flatV u = true) {W : World} {vals : List Value} (hl : vals.length = us.length)
    (hv : ∀ (i : Nat) (x : VV) (v : Value), us[i]? = some x → vals[i]? = some v → WR W x v) :
    Calls P f vals.toArray W fun e W' => ∃ v, e = .returned v ∧ Below W.heap.size W W' ∧ WR W u v := by
  obtain ⟨_, hc⟩ := (callV_ok hm (fun _ _ => drawn_ok) hst hext k).ok f _ _ _ _ _ h
  have hE : Enter ⟨fun _ => ⟨0, 0, 0⟩, wholeG W, fun _ => 0, fun _ => 0, fun _ => 0⟩ (Hp.bare 0) W (us.map .val) vals (us.map fun _ => none) := by
    refine ⟨⟨fun o obj h => by simp [Hp.bare] at h, fun o h => by simp [Hp.bare] at h, fun o o' _ h => by simp [Hp.bare] at h, fun b hb => ?_⟩, by simp [hl], by simp, fun i r v p hr hv' hp => ?_, fun i b o s hi => ?_, fun i j b o s b' o' s' hij hi => ?_⟩
    · have : W.heap[b]? = none := Array.getElem?_eq_none_iff.2 hb
      simp only [wholeG, this]
    · simp only [List.getElem?_map, Option.map_eq_some_iff] at hr hp
      obtain ⟨x, hx, rfl⟩ := hr
      obtain ⟨_, _, rfl⟩ := hp
      exact .val _ _ (hv i x v hx hv')
    · simp only [List.getElem?_map, Option.map_eq_some_iff] at hi
      obtain ⟨_, _, hi⟩ := hi; cases hi
    · simp only [List.getElem?_map, Option.map_eq_some_iff] at hi
      obtain ⟨_, _, hi⟩ := hi; cases hi
  refine Calls.mono (hc _ W vals _ hE) fun e W' he => ?_
  obtain ⟨v, gh', rfl, post⟩ := he
  refine ⟨v, rfl, ?_, ?_⟩
  · have L := post.leave
    refine ⟨L.still.os, L.still.tape, L.still.output, L.size, fun b hb => L.old b hb (fun ⟨i, o, s, hi⟩ => ?_) fun o ho => by simp [Hp.bare] at ho⟩
    simp only [List.getElem?_map, Option.map_eq_some_iff] at hi
    obtain ⟨_, _, hi⟩ := hi; cases hi
  · obtain ⟨vl, rp, hr, rfl, _⟩ := post.res
    cases hr with
    | cons r v p rs vs pl h1 h2 =>
      cases h2
      cases h1 with
      | cell _ _ p h3 hb =>
        cases h3 with
        | val _ _ h4 => exact h4.flat hu

/-- the drawn regions of all functions, but for some, are calm -/
def allStatic (P : Program) (dyn : FuncId → Bool) : Bool :=
  (List.range P.funcs.size).all fun f =>
    match P.funcs[f]? with
    | some fn =>
      match fn.body with
      | some c => dyn f || staticOk c
      | none => true
    | none => true

theorem allStatic_spec {P : Program} {dyn : FuncId → Bool} (h : allStatic P dyn = true) : ∀ f fn c, P.funcs[f]? = some fn → fn.body = some c → dyn f = true ∨ staticOk c = true := by
  intro f fn c hf hc
  have := List.all_eq_true.1 h f (List.mem_range.2 (Array.getElem?_eq_some_iff.1 hf).1)
  rw [hf] at this
  simp only [hc, Bool.or_eq_true] at this
  exact this

theorem VRel.of_true {μ : Nat → Ob} {nx : Nat} {G : Nat → Nat} {w : World} {b : Bool} {v : Value} (h : VRel μ nx G w (.bool b) v) : v = .bool b := by cases h; rfl

end Go.Vi

/-
  What is read of an argument, as a value of the interpreter: for whole numbers, bools, strings, slices and structs of these, in one another.
  Conditions: each number is of its kind, each string and slice within the row's reach.
-/
namespace Go.Vi
open Go.ChangeShapes Go.WideShapes Go.Deep
set_option linter.unusedVariables false
set_option linter.unusedSimpArgs false

/-- a kind of values -/
structure Kv (α : Type) where
  sz : Nat
  val : α → VV

/-- a slice: none is nil -/
abbrev Sl (α : Type) := Option (List α)

def Kv.int (k : IntKind) : Kv Int := ⟨1, .int k⟩
def Kv.bool : Kv Bool := ⟨1, .bool⟩
def Kv.string : Kv ByteArray := ⟨1, .str⟩
def slV {α : Type} (f : α → VV) : Sl α → VV
  | none => .nils
  | some l => .lst (l.map f)
def Kv.slice {α : Type} (d : Kv α) : Kv (Sl α) := ⟨1, slV d.val⟩
def Sl.list {α : Type} : Sl α → List α
  | none => []
  | some l => l

abbrev CellsRel (w : World) (l : List VV) (cs : List Value) : Prop := VsRel (fun _ => ⟨0, 0, 0⟩) 0 (wholeG w) w l cs

theorem list_of {α : Type} {p : Nat → α → Prop} : ∀ n : Nat, (∀ i, i < n → ∃ y, p i y) → ∃ ys : List α, ys.length = n ∧ ∀ i y, ys[i]? = some y → p i y
  | 0, _ => ⟨[], rfl, fun i y h => by simp at h⟩
  | n + 1, h => by
    obtain ⟨ys, hl, hy⟩ := list_of n (fun i hi => h i (by omega))
    obtain ⟨y, hp⟩ := h n (by omega)
    refine ⟨ys ++ [y], by simp [hl], fun i z hz => ?_⟩
    rcases Nat.lt_or_ge i ys.length with hi | hi
    · rw [List.getElem?_append_left hi] at hz
      exact hy i z hz
    · rw [List.getElem?_append_right hi] at hz
      have h0 : i - ys.length = 0 := by
        rcases Nat.eq_zero_or_pos (i - ys.length) with h0 | h0
        · exact h0
        · rw [List.getElem?_eq_none (by simp only [List.length_singleton]; omega)] at hz
          cases hz
      rw [h0] at hz
      simp only [List.getElem?_cons_zero, Option.some.injEq] at hz
      subst hz
      have : i = n := by omega
      subst this
      exact hp

theorem weightsAll_mem {H : Type} {P : Program} {e : TypeId} : ∀ {l : List (DataW H)}, (DataW.weightsAll P e l).all (· ≤ reachBytes) = true → ∀ d ∈ l, (d.weights P e).all (· ≤ reachBytes) = true
  | [], _, d, hd => by cases hd
  | x :: l, h, d, hd => by
    rw [DataW.weightsAll, List.all_append, Bool.and_eq_true] at h
    rcases List.mem_cons.1 hd with rfl | hd
    · exact h.1
    · exact weightsAll_mem h.2 d hd

theorem weightsEach_at {H : Type} {P : Program} : ∀ {ts : List TypeId} {ds : List (DataW H)}, (DataW.weightsEach P ts ds).all (· ≤ reachBytes) = true → ∀ (j : Nat) (t : TypeId) (d : DataW H), ts[j]? = some t → ds[j]? = some d → (d.weights P t).all (· ≤ reachBytes) = true
  | [], _, _, j, t, d, ht, _ => by simp at ht
  | _ :: _, [], _, j, t, d, _, hd => by simp at hd
  | u :: ts, x :: ds, h, j, t, d, ht, hd => by
    rw [DataW.weightsEach, List.all_append, Bool.and_eq_true] at h
    cases j with
    | zero =>
      simp only [List.getElem?_cons_zero, Option.some.injEq] at ht hd
      subst ht
      subst hd
      exact h.1
    | succ j =>
      simp only [List.getElem?_cons_succ] at ht hd
      exact weightsEach_at h.2 j t d ht hd

/-- Whatever is read at type t is of kind d, and good. -/
def OpensV (P : Program) (t : TypeId) {α : Type} (d : Kv α) (g : α → Prop) : Prop :=
  P.cellsOf t = d.sz ∧ (∀ y, (d.val y).cells.length = d.sz) ∧ ∀ (H : Type) (enc : TypeId × Value → H) (w : World) (base : Nat) (spare : Nat → Bool) (held : Bool) (fuel : Nat) (cs : List Value) (x : DataW H × List MemPlace),
    DataW.trod enc P w base spare held fuel t cs = some x → (DataW.weights P t x.1).all (· ≤ reachBytes) = true → ∃ y : α, CellsRel w (d.val y).cells cs ∧ g y

theorem CellsRel.one {w : World} {x : VV} {v : Value} (h : WR w x v) : CellsRel w [x] [v] :=
  ⟨rfl, fun i a b ha hb => by cases i with
    | zero => simp at ha hb; subst ha; subst hb; exact h
    | succ i => simp at ha⟩

section
variable {P : Program} {t e : TypeId} {α β : Type}
theorem opensV_int {k : IntKind} (ht : P.underlying t = some (.int k)) (hC : P.cellsOf t = 1) : OpensV P t (Kv.int k) (fun x => (Lit.int k x).wf = true) := by
  refine ⟨hC, fun _ => rfl, fun H enc w base spare held fuel cs x hx _ => ?_⟩
  obtain ⟨n, rfl, _, hn⟩ := DataW.trod_int ht hx
  exact ⟨n, CellsRel.one (.int _ _), hn⟩
theorem opensV_bool (ht : P.underlying t = some .bool) (hC : P.cellsOf t = 1) : OpensV P t Kv.bool (fun _ => True) := by
  refine ⟨hC, fun _ => rfl, fun H enc w base spare held fuel cs x hx _ => ?_⟩
  obtain ⟨n, rfl, _⟩ := DataW.trod_bool ht hx
  exact ⟨n, CellsRel.one (.bool _), trivial⟩
theorem opensV_string (ht : P.underlying t = some .string) (hC : P.cellsOf t = 1) : OpensV P t Kv.string (fun s => s.size ≤ 140737488351232) := by
  refine ⟨hC, fun _ => rfl, fun H enc w base spare held fuel cs x hx hw => ?_⟩
  obtain ⟨s, rfl, rfl, _⟩ := DataW.trod_string ht hx
  refine ⟨s, CellsRel.one (.str _), ?_⟩
  simp only [DataW.weights, List.all_cons, List.all_nil, Bool.and_true, reachBytes] at hw
  rw [Array.length_toList] at hw
  exact of_decide_eq_true hw

theorem opensV_slice {d : Kv α} {g : α → Prop} {B : Nat} (ht : P.underlying t = some (.slice e)) (hC : P.cellsOf t = 1) (hB : P.bytesOf e = B) (hz : d.sz ≠ 0) (h : OpensV P e d g) :
    OpensV P t (Kv.slice d) (fun xs => xs.list.length ≤ maxLen ∧ xs.list.length * B ≤ 140737488351232 ∧ ∀ x ∈ xs.list, g x) := by
  refine ⟨hC, fun y => by cases y <;> rfl, fun H enc w base spare held fuel cs x hx hw => ?_⟩
  rcases open_slice ht hx with ⟨rfl, rfl⟩ | ⟨a, len, cap, m, n, D, Pl, rfl, hb, hl, hm, hmm, rfl, hi⟩
  · exact ⟨none, CellsRel.one .nils, by simp [Sl.list], by simp [Sl.list], by simp [Sl.list]⟩
  · have hlm : len ≤ m := by rw [hmm]; split <;> omega
    simp only [DataW.weights, ht, List.all_cons, List.all_append, Bool.and_eq_true, reachBytes, List.length_map, List.length_range, hB] at hw
    obtain ⟨hw0', hw1, _⟩ := hw
    have hw0 := of_decide_eq_true hw0'
    have hw1' : (DataW.weightsAll P e (List.map D (List.range len))).all (· ≤ reachBytes) = true := by simpa [reachBytes] using hw1
    have key : ∀ i, i < len → ∃ y, (∃ c : List Value, c.length = d.sz ∧ CellsRel w (d.val y).cells c ∧ ∀ j u, c[j]? = some u → w.cell? (a.add (i * d.sz + j)) = some u) ∧ g y := by
      intro i hi'
      obtain ⟨cs', hc, ht'⟩ := hi i (by omega)
      obtain ⟨y, hK, hg⟩ := h.2.2 H enc w base spare held n cs' (D i, Pl i) ht' (weightsAll_mem hw1' (D i) (List.mem_map.2 ⟨i, List.mem_range.2 hi', rfl⟩))
      rw [h.1] at hc
      obtain ⟨_, hlen, hcell⟩ := World.cells?_some hc
      refine ⟨y, ⟨cs', hlen, hK, fun j u hu => ?_⟩, hg⟩
      have hj : j < d.sz := by
        rcases Nat.lt_or_ge j cs'.length with h1 | h1
        · omega
        · rw [List.getElem?_eq_none h1] at hu
          cases hu
      rw [← hu, ← hcell j hj, Go.Deep.add_add]
    obtain ⟨ys, hyl, hy⟩ := list_of len key
    have hmax : len ≤ 9223372036854775807 := by
      have : cap ≤ 9223372036854775807 := by simpa [maxLen] using hm
      omega
    refine ⟨some ys, CellsRel.one ?_, by simp only [Sl.list]; omega, ?_, fun x hx => ?_⟩
    · show WR w (.lst (ys.map d.val)) _
      by_cases h0 : len = 0
      · subst h0
        have : ys = [] := List.eq_nil_of_length_eq_zero hyl
        subst this
        exact .lste a cap
      · -- the address is a cell's
          obtain ⟨y0, hy0⟩ : ∃ y, ys[0]? = some y := ⟨_, List.getElem?_eq_getElem (by omega)⟩
          obtain ⟨⟨c0, k1, k2, k3⟩, _⟩ := hy 0 y0 hy0
          obtain ⟨u0, hu0⟩ : ∃ u, c0[0]? = some u := ⟨_, List.getElem?_eq_getElem (by omega)⟩
          have hsp := k3 0 u0 hu0
          simp only [Nat.zero_mul, Nat.add_zero, Addr.add, if_true] at hsp
          obtain ⟨ab, ao, as⟩ := a
          have has : as = none := by
            cases as with
            | none => rfl
            | some s =>
              simp only [World.cell?] at hsp
              split at hsp <;> simp at hsp
          subst has
          have hget : ∀ (i : Nat) (e : VV) (j : Nat) (x : VV), (ys.map d.val)[i]? = some e → e.cells[j]? = some x → ∃ u, cellAt w ab (ao + i * d.sz + j) = some u ∧ WR w x u := fun i e j x hi hj => by
            simp only [List.getElem?_map, Option.map_eq_some_iff] at hi
            obtain ⟨y, hy1, rfl⟩ := hi
            obtain ⟨⟨c, q1, q2, q3⟩, _⟩ := hy i y hy1
            have hjl : j < c.length := by rw [q2.len]; exact (List.getElem?_eq_some_iff.1 hj).1
            obtain ⟨u, hu⟩ : ∃ u, c[j]? = some u := ⟨_, List.getElem?_eq_getElem hjl⟩
            have := q3 j u hu
            rw [Addr.add_lit, ← Nat.add_assoc] at this
            exact ⟨u, this, q2.rel j x u hj hu⟩
          have hl' : len = (ys.map d.val).length := by simp [hyl]
          rw [hl']
          refine .lst (ys.map d.val) ab ao d.sz cap (fun i j => (cellAt w ab (ao + i * d.sz + j)).getD undef) (fun i e hi => ?_) (fun i e j x hi hj => ?_) (fun i e j x hi hj => ?_) (by rw [← hl']; exact hl)
          · simp only [List.getElem?_map, Option.map_eq_some_iff] at hi
            obtain ⟨y, _, rfl⟩ := hi
            exact h.2.1 y
          · obtain ⟨u, q1, q2⟩ := hget i e j x hi hj
            exact ⟨wholeG_cell q1, by rw [q1]; rfl⟩
          · obtain ⟨u, q1, q2⟩ := hget i e j x hi hj
            rw [q1]; exact q2
    · simp only [Sl.list]
      rw [hyl]
      exact Nat.le_trans (Nat.mul_le_mul_right _ (by omega)) hw0
    · obtain ⟨i, hi⟩ := List.mem_iff_getElem?.1 hx
      exact (hy i x hi).2

/-- fields in line -/
structure Kf (α : Type) where
  sz : Nat
  cells : α → List VV

def Kf.one (d : Kv α) : Kf α := ⟨d.sz, fun x => (d.val x).cells⟩
def Kf.pair (a : Kv α) (b : Kf β) : Kf (α × β) := ⟨a.sz + b.sz, fun y => (a.val y.1).cells ++ b.cells y.2⟩
def Kv.struct (f : β → α) (d : Kf α) : Kv β := ⟨d.sz, fun x => .agg (d.cells (f x))⟩

/-- A struct's fields from one on: their kinds in line. -/
def OpensVF (P : Program) (fs : List Field) (off : Nat) {α : Type} (d : Kf α) (g : α → Prop) : Prop :=
  (∀ y, (d.cells y).length = d.sz) ∧ ∀ (H : Type) (enc : TypeId × Value → H) (w : World) (base : Nat) (spare : Nat → Bool) (held : Bool) (n : Nat) (cs : List Value) (xs : List (DataW H × List MemPlace)),
    cs.length = off + d.sz → xs.length = fs.length → (∀ (i : Nat) (f : Field), fs[i]? = some f → DataW.trod enc P w base spare held n f.type ((cs.drop f.offset).take (P.cellsOf f.type)) = xs[i]?) →
    (DataW.weightsEach P (fs.map (·.type)) (xs.map (·.1))).all (· ≤ reachBytes) = true → ∃ y : α, CellsRel w (d.cells y) (cs.drop off) ∧ g y

theorem CellsRel.append {w : World} {a b : List VV} {u v : List Value} (h : CellsRel w a u) (h' : CellsRel w b v) : CellsRel w (a ++ b) (u ++ v) := by
  refine ⟨by simp [h.len, h'.len], fun i x y hx hy => ?_⟩
  rw [List.getElem?_append] at hx hy
  rw [h.len] at hy
  split at hx
  · rename_i hi
    rw [if_pos hi] at hy
    exact h.rel i x y hx hy
  · rename_i hi
    rw [if_neg hi] at hy
    exact h'.rel _ x y hx hy

theorem opensVF_one {f : Field} {off : Nat} {d : Kv α} {g : α → Prop} (ho : f.offset = off) (h : OpensV P f.type d g) : OpensVF P [f] off (Kf.one d) g := by
  refine ⟨h.2.1, fun H enc w base spare held n cs xs hcs hxs ht hw => ?_⟩
  match xs, hxs with
  | [x], _ =>
    have h1 := ht 0 f rfl
    have hcs' : cs.length = off + d.sz := hcs
    rw [ho, h.1, List.take_of_length_le (by simp; omega)] at h1
    exact h.2.2 H enc w base spare held n (cs.drop off) x h1 (by simpa [DataW.weightsEach] using hw)

theorem opensVF_cons {f : Field} {fs : List Field} {off : Nat} {a : Kv α} {b : Kf β} {g : α → Prop} {g' : β → Prop} (ho : f.offset = off) (h : OpensV P f.type a g) (hr : OpensVF P fs (off + a.sz) b g') :
    OpensVF P (f :: fs) off (Kf.pair a b) (fun y => g y.1 ∧ g' y.2) := by
  refine ⟨fun y => by simp [Kf.pair, h.2.1, hr.1], fun H enc w base spare held n cs xs hcs hxs ht hw => ?_⟩
  have hcs' : cs.length = off + (a.sz + b.sz) := hcs
  match xs, hxs with
  | x :: xs, hxs =>
    have h1 := ht 0 f rfl
    rw [ho, h.1] at h1
    rw [List.map_cons, List.map_cons, DataW.weightsEach, List.all_append, Bool.and_eq_true] at hw
    obtain ⟨y, hK, hg⟩ := h.2.2 H enc w base spare held n _ x h1 hw.1
    obtain ⟨z, hK', hg'⟩ := hr.2 H enc w base spare held n cs xs (by omega) (by simpa using hxs) (fun i f hf => by simpa using ht (i + 1) f (by simpa using hf)) hw.2
    refine ⟨(y, z), ?_, hg, hg'⟩
    have := CellsRel.append hK hK'
    rw [← List.drop_drop, List.take_append_drop] at this
    exact this

theorem opensV_struct {fs : Array Field} {d : Kf α} {g : α → Prop} (f : β → α) (inv : α → β) (hi : ∀ a, f (inv a) = a) (hu : P.underlying t = some (.struct fs)) (hC : P.cellsOf t = d.sz) (h : OpensVF P fs.toList 0 d g) :
    OpensV P t (Kv.struct f d) (fun b => g (f b)) := by
  refine ⟨hC, fun y => h.1 _, fun H enc w base spare held fuel cs x hx hw => ?_⟩
  obtain ⟨xs, n, rfl, rfl, hcs, hl, hix⟩ := DataW.trod_struct hu hx
  obtain ⟨y, h1, h2⟩ := h.2 H enc w base spare held n cs xs (by omega) (by simpa using hl) (fun i f hf => hix i f (by simpa using hf)) (by simpa [DataW.weights, hu] using hw)
  refine ⟨inv y, ?_, by show g (f (inv y)); rw [hi]; exact h2⟩
  show CellsRel w (d.cells (f (inv y))) cs
  rw [hi]
  simpa using h1

theorem opensV_imp {d : Kv α} {g g' : α → Prop} (h : OpensV P t d g) (hg : ∀ x, g x → g' x) : OpensV P t d g' :=
  ⟨h.1, h.2.1, fun H enc w base spare held fuel cs x hx hw => let ⟨y, hK, hy⟩ := h.2.2 H enc w base spare held fuel cs x hx hw; ⟨y, hK, hg y hy⟩⟩

/-- from cells to values -/
theorem WR.of_cells {w : World} {l : List VV} {cs : Array Value} (h : CellsRel w l cs.toList) : WR w (.agg l) (.agg cs) := by
  have := VRel.agg (μ := fun _ => ⟨0, 0, 0⟩) (nx := 0) (G := wholeG w) (w := w) l cs.toList h.len h.rel
  simpa using this

theorem WR.of_one {w : World} {x : VV} {v : Value} (hv : v.cells = #[v]) (hx : x.cells = [x]) (h : CellsRel w x.cells v.cells.toList) : WR w x v :=
  h.rel 0 x v (by rw [hx]; rfl) (by rw [hv]; rfl)

end
end Go.Vi

/-
  More fuel does no harm.
-/
namespace Go.Vi
set_option linter.unusedVariables false
set_option linter.unusedSimpArgs false

/-- one tells no less than the other -/
def CallLe (call call' : CallV) : Prop := ∀ f a H r, call f a H = some r → call' f a H = some r

section
variable {P : Program} {pol : Pol} {keys : Nat → List Nat} {call call' : CallV} {ops : Array Oper}

theorem callsV_mono (hc : CallLe call call') {dst : Option Tmp} {f : Option SV} {args : List (Option SV)} {tab : List TC} {H : Hp} {s : St} (h : callsV pol keys call dst f args tab H = some s) :
    callsV pol keys call' dst f args tab H = some s := by
  unfold callsV at h ⊢
  split at h
  · rename_i fid first captured as has
    split at h
    · rename_i vs tab1 ln hargs
      split at h
      · simp at h
      · rename_i hchk
        rw [if_neg hchk]
        cases hres : call fid (first.map .val ++ vs ++ captured.map .val) (if pol.pure fid then Hp.bare H.next else H) with
        | none => rw [hres] at h; simp at h
        | some r =>
          rw [hres] at h
          rw [hc _ _ _ _ hres]
          exact h
    · simp at h
  · simp at h

theorem stepV_mono (hc : CallLe call call') {dst : Option Tmp} {ρ : Operand → Option SV} {tab : List TC} {H : Hp} {op : Op} {s : St} (h : stepV P pol keys call dst ρ tab H op = some s) :
    stepV P pol keys call' dst ρ tab H op = some s := by
  cases op <;> try exact h
  case call c =>
    simp only [stepV] at h ⊢
    split at h
    · exact h
    · exact h
    · exact h
    · exact h
    · exact callsV_mono hc h
    · exact callsV_mono hc h
    · exact h

theorem opV_mono (hc : CallLe call call') {o : Oper} {fr : Fr} {H : Hp} {r : Fr × Hp} (h : opV P pol keys call ops o fr H = some r) : opV P pol keys call' ops o fr H = some r := by
  unfold opV at h ⊢
  split at h
  · rename_i hw
    rw [if_pos hw]
    split at h
    · rename_i s hs
      rw [stepV_mono hc hs]
      exact h
    · simp at h
  · rename_i hw
    rw [if_neg hw]; exact h

theorem opsV_mono (hc : CallLe call call') : ∀ {l : List Oper} {fr : Fr} {H : Hp} {r : Fr × Hp}, opsV P pol keys call ops l fr H = some r →
    opsV P pol keys call' ops l fr H = some r ∧ feetV P pol keys call' ops l fr H = feetV P pol keys call ops l fr H
  | [], fr, H, r, h => ⟨h, rfl⟩
  | o :: l, fr, H, r, h => by
    simp only [opsV] at h
    split at h
    · rename_i fr' H' h1
      obtain ⟨q1, q2⟩ := opsV_mono hc h
      have h1' := opV_mono hc h1
      refine ⟨by simp only [opsV, h1']; exact q1, ?_⟩
      rw [feetV_cons h1, feetV_cons h1', q2]
    · simp at h

theorem iterV_mono {b b' : Fr → Hp → Option (VEx × Fr × Hp)} (hb : ∀ fr H r, b fr H = some r → b' fr H = some r) : ∀ {n n' : Nat} {fr : Fr} {H : Hp} {r : VEx × Fr × Hp}, n ≤ n' → iterV b n fr H = some r → iterV b' n' fr H = some r
  | 0, n', fr, H, r, _, h => by simp [iterV] at h
  | n + 1, 0, fr, H, r, hn, h => by omega
  | n + 1, n' + 1, fr, H, r, hn, h => by
    simp only [iterV] at h ⊢
    cases hbx : b fr H with
    | none => rw [hbx] at h; simp at h
    | some x =>
      rw [hbx] at h
      rw [hb _ _ _ hbx]
      obtain ⟨ex, fr1, H1⟩ := x
      cases ex with
      | normal => exact iterV_mono hb (by omega) h
      | exit id => exact h
      | ret => exact h

theorem execV_mono (hc : CallLe call call') {dyn : Bool} {k k' : Nat} (hk : k ≤ k') (c : Code) : ∀ {fr : Fr} {H : Hp} {r : VEx × Fr × Hp}, execV P pol keys call dyn k c fr H = some r → execV P pol keys call' dyn k' c fr H = some r := by
  induction c with
  | seq x y ihx ihy =>
    intro fr H r h
    simp only [execV] at h ⊢
    cases hx : execV P pol keys call dyn k x fr H with
    | none => rw [hx] at h; simp at h
    | some q =>
      rw [hx] at h
      rw [ihx hx]
      obtain ⟨ex, fr1, H1⟩ := q
      cases ex with
      | normal => exact ihy h
      | exit id => exact h
      | ret => exact h
  | region id ops draws =>
    intro fr H r h
    simp only [execV] at h ⊢
    split at h
    · simp at h
    · rename_i hn
      split at h
      case h_2 => simp at h
      rename_i fr1 H1 h1
      obtain ⟨e1, e2⟩ := opsV_mono hc h1
      rw [e2, if_neg hn, e1]
      exact h
  | cond c x y ihx ihy =>
    intro fr H r h
    simp only [execV] at h ⊢
    split at h
    · exact ihx h
    · exact ihy h
    · simp at h
  | block id c ih =>
    intro fr H r h
    simp only [execV] at h ⊢
    cases hx : execV P pol keys call dyn k c fr H with
    | none => rw [hx] at h; simp at h
    | some q => rw [hx] at h; rw [ih hx]; exact h
  | loop c ih =>
    intro fr H r h
    simp only [execV] at h ⊢
    exact iterV_mono (fun fr H r h => ih h) hk h
  | scope c ih =>
    intro fr H r h
    simp only [execV] at h ⊢
    exact ih h
  | _ =>
    intro fr H r h
    simpa only [execV] using h

theorem callV_succ : ∀ k, CallLe (callV P pol k) (callV P pol (k + 1))
  | 0 => fun f a H r h => by simp [callV] at h
  | k + 1 => fun f a H r h => by
    have ih := callV_succ k
    rw [callV] at h ⊢
    split at h
    · exact h
    · split at h
      · simp at h
      · split at h
        · simp at h
        · rename_i c hc
          split at h
          · simp at h
          · rename_i hn
            rw [if_neg hn]
            cases hx : execV P pol (pol.keys f) (callV P pol k) (pol.dyn f) k c ⟨argSlots 0 a ++ List.replicate (_ - a.length) (.val .undef), argTab a ++ List.replicate (_ - a.length) (.gone 0)⟩ H with
            | none => rw [hx] at h; simp at h
            | some q => rw [hx] at h; rw [execV_mono ih (Nat.le_succ k) c hx]; exact h

theorem callV_mono {k k' : Nat} (h : k ≤ k') : CallLe (callV P pol k) (callV P pol k') := by
  induction h with
  | refl => exact fun _ _ _ _ h => h
  | step _ ih => exact fun f a H r h => callV_succ _ f a H r (ih f a H r h)

end
end Go.Vi

/-
  What code comes to, without fuel.
-/
namespace Go.Vi
set_option linter.unusedVariables false
set_option linter.unusedSimpArgs false

/-- a call comes to its answer -/
def Runs (P : Program) (pol : Pol) (f : FuncId) (args : List RV) (H : Hp) (r : List RV × List RV × Hp) : Prop := ∃ k, callV P pol k f args H = some r
/-- the heap behind a call, as the call has it -/
theorem keeps_eq {P : Program} {pol : Pol} {k : Nat} {f : FuncId} {args r b : List RV} {H H' : Hp} (h : callV P pol k f args H = some (r, b, H')) (hp : pol.pure f = false) : (if keepsHeap pol f = true then H else H') = H' := by
  unfold keepsHeap
  rw [hp, Bool.false_or]
  cases he : (pol.ext f).isSome with
  | false => rfl
  | true =>
    obtain ⟨g, hg⟩ := Option.isSome_iff_exists.1 he
    cases k with
    | zero => simp [callV] at h
    | succ k =>
      simp only [callV, hg] at h
      rw [Option.map_eq_some_iff] at h
      obtain ⟨⟨r, b⟩, h1, h2⟩ := h
      simp only [Prod.mk.injEq] at h2
      rw [h2.2.2]; rfl
theorem keeps_pure {pol : Pol} {f : FuncId} {H H' : Hp} (hp : pol.pure f = true) : (if keepsHeap pol f = true then H else H') = H := by
  unfold keepsHeap; rw [hp]; rfl

/-- operations come to their end -/
def Ops (P : Program) (pol : Pol) (f : FuncId) (ops : Array Oper) (l : List Oper) (fr : Fr) (H : Hp) (r : Fr × Hp) : Prop := ∃ k, opsV P pol (pol.keys f) (callV P pol k) ops l fr H = some r

/-- code comes to its end -/
def Ex (P : Program) (pol : Pol) (f : FuncId) (c : Code) (fr : Fr) (H : Hp) (r : VEx × Fr × Hp) : Prop := ∃ k, execV P pol (pol.keys f) (callV P pol k) (pol.dyn f) k c fr H = some r

section
variable {P : Program} {pol : Pol} {f : FuncId} {ops : Array Oper}

theorem Ops.nil {fr : Fr} {H : Hp} : Ops P pol f ops [] fr H (fr, H) := ⟨0, rfl⟩

/-- an operation that calls nobody -/
theorem Ops.step {o : Oper} {l : List Oper} {fr fr1 : Fr} {H H1 : Hp} {r : Fr × Hp} (h : ∀ call, opV P pol (pol.keys f) call ops o fr H = some (fr1, H1)) (hr : Ops P pol f ops l fr1 H1 r) : Ops P pol f ops (o :: l) fr H r := by
  obtain ⟨k, hk⟩ := hr
  exact ⟨k, by simp only [opsV, h]; exact hk⟩

/-- an operation that asks for fuel -/
theorem Ops.stepK {o : Oper} {l : List Oper} {fr fr1 : Fr} {H H1 : Hp} {r : Fr × Hp} (h : ∃ k, opV P pol (pol.keys f) (callV P pol k) ops o fr H = some (fr1, H1)) (hr : Ops P pol f ops l fr1 H1 r) : Ops P pol f ops (o :: l) fr H r := by
  obtain ⟨k1, h1⟩ := h
  obtain ⟨k2, h2⟩ := hr
  refine ⟨max k1 k2, ?_⟩
  have e1 := opV_mono (callV_mono (Nat.le_max_left k1 k2)) h1
  have e2 := (opsV_mono (callV_mono (Nat.le_max_right k1 k2)) h2).1
  simp only [opsV, e1, e2]

theorem Ex.up {c : Code} {fr : Fr} {H : Hp} {r : VEx × Fr × Hp} {k k' : Nat} (hk : k ≤ k') (h : execV P pol (pol.keys f) (callV P pol k) (pol.dyn f) k c fr H = some r) : execV P pol (pol.keys f) (callV P pol k') (pol.dyn f) k' c fr H = some r :=
  execV_mono (callV_mono hk) hk c h

theorem Ex.skip {fr : Fr} {H : Hp} : Ex P pol f .skip fr H (.normal, fr, H) := ⟨0, rfl⟩
theorem Ex.exit {id : Nat} {fr : Fr} {H : Hp} : Ex P pol f (.exit id) fr H (.exit id, fr, H) := ⟨0, rfl⟩
theorem Ex.ret {fr : Fr} {H : Hp} : Ex P pol f .ret fr H (.ret, fr, H) := ⟨0, rfl⟩
theorem Ex.label {l : Nat} {fr : Fr} {H : Hp} : Ex P pol f (.label l) fr H (.normal, fr, H) := ⟨0, rfl⟩

theorem Ex.seq {x y : Code} {fr fr1 : Fr} {H H1 : Hp} {r : VEx × Fr × Hp} (h : Ex P pol f x fr H (.normal, fr1, H1)) (h' : Ex P pol f y fr1 H1 r) : Ex P pol f (.seq x y) fr H r := by
  obtain ⟨k1, h1⟩ := h
  obtain ⟨k2, h2⟩ := h'
  refine ⟨max k1 k2, ?_⟩
  simp only [execV, Ex.up (Nat.le_max_left k1 k2) h1, Ex.up (Nat.le_max_right k1 k2) h2]

theorem Ex.seq_ret {x y : Code} {fr fr1 : Fr} {H H1 : Hp} (h : Ex P pol f x fr H (.ret, fr1, H1)) : Ex P pol f (.seq x y) fr H (.ret, fr1, H1) := by
  obtain ⟨k1, h1⟩ := h
  exact ⟨k1, by simp only [execV, h1]⟩

theorem Ex.seq_exit {x y : Code} {id : Nat} {fr fr1 : Fr} {H H1 : Hp} (h : Ex P pol f x fr H (.exit id, fr1, H1)) : Ex P pol f (.seq x y) fr H (.exit id, fr1, H1) := by
  obtain ⟨k1, h1⟩ := h
  exact ⟨k1, by simp only [execV, h1]⟩

theorem Ex.regionZ {id : Nat} {draws : Bool} {fr fr1 fr2 : Fr} {H H1 : Hp} (hd : pol.dyn f = false) (h : Ops P pol f ops ops.toList fr H (fr1, H1)) (hz : frzAll (pol.keys f (1000000 + id)) fr1 = some fr2) : Ex P pol f (.region id ops draws) fr H (.normal, fr2, H1) := by
  obtain ⟨k, h⟩ := h
  exact ⟨k, by simp only [execV, hd, Bool.false_and, Bool.false_eq_true, if_false, h, hz, Option.map_some]⟩

theorem Ex.region_plainZ {id : Nat} {fr fr1 fr2 : Fr} {H H1 : Hp} (h : Ops P pol f ops ops.toList fr H (fr1, H1)) (hz : frzAll (pol.keys f (1000000 + id)) fr1 = some fr2) : Ex P pol f (.region id ops false) fr H (.normal, fr2, H1) := by
  obtain ⟨k, h⟩ := h
  exact ⟨k, by simp only [execV, Bool.and_false, Bool.false_and, Bool.false_eq_true, if_false, h, hz, Option.map_some]⟩

theorem Ex.region_calmZ {id : Nat} {draws : Bool} {fr fr1 fr2 : Fr} {H H1 : Hp} (hc : (edgesOk ops && calmB ops) = true) (h : Ops P pol f ops ops.toList fr H (fr1, H1)) (hz : frzAll (pol.keys f (1000000 + id)) fr1 = some fr2) : Ex P pol f (.region id ops draws) fr H (.normal, fr2, H1) := by
  obtain ⟨k, h⟩ := h
  rw [Bool.and_eq_true] at hc
  have hp := calm_pairs hc.2 h
  exact ⟨k, by simp only [execV, hc.1, hp, Bool.and_self, Bool.not_true, Bool.and_false, Bool.false_eq_true, if_false, h, hz, Option.map_some]⟩

theorem Ex.cond {c : Operand} {x y : Code} {fr : Fr} {H : Hp} {r : VEx × Fr × Hp} (b : Bool) (hc : ev fr.slots c = some (.val (.bool b))) (h : Ex P pol f (if b then x else y) fr H r) : Ex P pol f (.cond c x y) fr H r := by
  obtain ⟨k, h⟩ := h
  refine ⟨k, ?_⟩
  cases b with
  | true => simp only [execV, hc]; exact h
  | false => simp only [execV, hc]; exact h

theorem Ex.block {id : Nat} {c : Code} {fr fr1 : Fr} {H H1 : Hp} {ex : VEx} (h : Ex P pol f c fr H (ex, fr1, H1)) :
    Ex P pol f (.block id c) fr H ((match ex with | .exit id' => if id' = id then .normal else .exit id' | e => e), fr1, H1) := by
  obtain ⟨k, h⟩ := h
  refine ⟨k, ?_⟩
  simp only [execV, h]
  cases ex with
  | normal => rfl
  | exit id' => simp only; split <;> rfl
  | ret => rfl

theorem Ex.scope {c : Code} {fr : Fr} {H : Hp} {r : VEx × Fr × Hp} (h : Ex P pol f c fr H r) : Ex P pol f (.scope c) fr H r := by
  obtain ⟨k, h⟩ := h
  exact ⟨k, by simp only [execV]; exact h⟩

theorem Ex.loop_out {c : Code} {fr fr1 : Fr} {H H1 : Hp} {ex : VEx} (hne : ex ≠ .normal) (h : Ex P pol f c fr H (ex, fr1, H1)) : Ex P pol f (.loop c) fr H (ex, fr1, H1) := by
  obtain ⟨k, h⟩ := h
  refine ⟨k + 1, ?_⟩
  simp only [execV, iterV, Ex.up (Nat.le_succ k) h]
  cases ex with
  | normal => exact absurd rfl hne
  | exit id => rfl
  | ret => rfl

theorem Ex.loop_round {c : Code} {fr fr1 : Fr} {H H1 : Hp} {r : VEx × Fr × Hp} (h : Ex P pol f c fr H (.normal, fr1, H1)) (h' : Ex P pol f (.loop c) fr1 H1 r) : Ex P pol f (.loop c) fr H r := by
  obtain ⟨k1, h1⟩ := h
  obtain ⟨k2, h2⟩ := h'
  simp only [execV] at h2
  refine ⟨max k1 k2 + 1, ?_⟩
  have e1 := Ex.up (k' := max k1 k2 + 1) (by omega) h1
  simp only [execV, iterV, e1]
  exact iterV_mono (fun fr H r h => execV_mono (callV_mono (by omega)) (by omega) c h) (Nat.le_max_right k1 k2) h2

/-- a call, from its body -/
theorem Runs.of_ex {fn : Func} {c : Code} {args : List RV} {H H' : Hp} {ex : VEx} {fr : Fr} {r b : List RV} {tab tab' : List TC} (he : pol.ext f = none) (hf : P.funcs[f]? = some fn) (hb : fn.body = some c)
    (hn : (fn.name == "runtime.NumGoroutine" || decide (fn.ntmps < args.length) || !args.all okArg) = false) (hex : ex = .normal ∨ ex = .ret)
    (h : Ex P pol f c ⟨argSlots 0 args ++ List.replicate (fn.ntmps - args.length) (.val .undef), argTab args ++ List.replicate (fn.ntmps - args.length) (.gone 0)⟩ H (ex, fr, H'))
    (hr : resultsV P (pol.frz f) fn fr = some (r, tab)) (hbk : backs (pol.mode f) tab 0 args = some (b, tab')) (hl : lentOk (pol.mode f) tab' 0 args = true) : Runs P pol f args H (r, b, H') := by
  obtain ⟨k, h⟩ := h
  refine ⟨k + 1, ?_⟩
  rw [callV]
  simp only [he, hf, hb, hn, Bool.false_eq_true, if_false, h]
  rcases hex with rfl | rfl <;> simp only [hr, hbk, hl, if_true]

end
end Go.Vi

/-
  What code comes to, told backwards.
-/
namespace Go.Vi
set_option linter.unusedVariables false
set_option linter.unusedSimpArgs false

/-- behind code: -/
abbrev PostV := VEx → Fr → Hp → Prop

structure WE (P : Program) (pol : Pol) (f : FuncId) (c : Code) (Q : PostV) (fr : Fr) (H : Hp) : Prop where
  h : ∃ ex fr' H', Ex P pol f c fr H (ex, fr', H') ∧ Q ex fr' H'
structure WO (P : Program) (pol : Pol) (f : FuncId) (ops : Array Oper) (l : List Oper) (K : Fr → Hp → Prop) (fr : Fr) (H : Hp) : Prop where
  h : ∃ fr' H', Ops P pol f ops l fr H (fr', H') ∧ K fr' H'

def PostV.seq (K : Fr → Hp → Prop) (Q : PostV) : PostV
  | .normal, fr, H => K fr H
  | e, fr, H => Q e fr H
def PostV.inBlock (id : Nat) (Q : PostV) : PostV
  | .exit id', fr, H => if id' = id then Q .normal fr H else Q (.exit id') fr H
  | e, fr, H => Q e fr H

section
variable {P : Program} {pol : Pol} {f : FuncId} {ops : Array Oper} {Q : PostV} {K : Fr → Hp → Prop} {fr : Fr} {H : Hp}

theorem WO.nil (h : K fr H) : WO P pol f ops [] K fr H := ⟨fr, H, Ops.nil, h⟩
theorem WO.step {o : Oper} {l : List Oper} {fr1 : Fr} {H1 : Hp} (h : ∀ call, opV P pol (pol.keys f) call ops o fr H = some (fr1, H1)) (hr : WO P pol f ops l K fr1 H1) : WO P pol f ops (o :: l) K fr H := by
  obtain ⟨fr', H', q1, q2⟩ := hr
  exact ⟨fr', H', Ops.step h q1, q2⟩
theorem WO.stepK {o : Oper} {l : List Oper} {fr1 : Fr} {H1 : Hp} (h : ∃ k, opV P pol (pol.keys f) (callV P pol k) ops o fr H = some (fr1, H1)) (hr : WO P pol f ops l K fr1 H1) : WO P pol f ops (o :: l) K fr H := by
  obtain ⟨fr', H', q1, q2⟩ := hr
  exact ⟨fr', H', Ops.stepK h q1, q2⟩

theorem WE.skip (h : Q .normal fr H) : WE P pol f .skip Q fr H := ⟨_, _, _, Ex.skip, h⟩
theorem WE.exit {id : Nat} (h : Q (.exit id) fr H) : WE P pol f (.exit id) Q fr H := ⟨_, _, _, Ex.exit, h⟩
theorem WE.ret (h : Q .ret fr H) : WE P pol f .ret Q fr H := ⟨_, _, _, Ex.ret, h⟩
theorem WE.label {l : Nat} (h : Q .normal fr H) : WE P pol f (.label l) Q fr H := ⟨_, _, _, Ex.label, h⟩
theorem WE.seq {x y : Code} (h : WE P pol f x (PostV.seq (WE P pol f y Q) Q) fr H) : WE P pol f (.seq x y) Q fr H := by
  obtain ⟨ex, fr1, H1, h1, h2⟩ := h
  cases ex with
  | normal =>
    obtain ⟨ex2, fr2, H2, h3, h4⟩ := h2
    exact ⟨ex2, fr2, H2, Ex.seq h1 h3, h4⟩
  | exit id => exact ⟨_, _, _, Ex.seq_exit h1, h2⟩
  | ret => exact ⟨_, _, _, Ex.seq_ret h1, h2⟩
/-- then some slots are written no more -/
def FrzK (l : List Nat) (K : Fr → Hp → Prop) : Fr → Hp → Prop := fun fr H => ∃ fr', frzAll l fr = some fr' ∧ K fr' H
theorem FrzK.nil {K : Fr → Hp → Prop} {l : List Nat} (hz : l = []) (h : K fr H) : FrzK l K fr H := by subst hz; exact ⟨fr, rfl, h⟩
theorem WE.regionZ {id : Nat} {draws : Bool} (hd : pol.dyn f = false) (h : WO P pol f ops ops.toList (FrzK (pol.keys f (1000000 + id)) (Q .normal)) fr H) : WE P pol f (.region id ops draws) Q fr H := by
  obtain ⟨fr1, H1, h1, fr2, hz, h2⟩ := h
  exact ⟨_, _, _, Ex.regionZ hd h1 hz, h2⟩
theorem WE.region_plainZ {id : Nat} (h : WO P pol f ops ops.toList (FrzK (pol.keys f (1000000 + id)) (Q .normal)) fr H) : WE P pol f (.region id ops false) Q fr H := by
  obtain ⟨fr1, H1, h1, fr2, hz, h2⟩ := h
  exact ⟨_, _, _, Ex.region_plainZ h1 hz, h2⟩
theorem WE.region_calmZ {id : Nat} {draws : Bool} (hc : (edgesOk ops && calmB ops) = true) (h : WO P pol f ops ops.toList (FrzK (pol.keys f (1000000 + id)) (Q .normal)) fr H) : WE P pol f (.region id ops draws) Q fr H := by
  obtain ⟨fr1, H1, h1, fr2, hz, h2⟩ := h
  exact ⟨_, _, _, Ex.region_calmZ hc h1 hz, h2⟩
theorem WO.mono {l : List Oper} {K' : Fr → Hp → Prop} (h : WO P pol f ops l K fr H) (hk : ∀ fr H, K fr H → K' fr H) : WO P pol f ops l K' fr H := by
  obtain ⟨fr1, H1, h1, h2⟩ := h
  exact ⟨_, _, h1, hk _ _ h2⟩
theorem WE.region {id : Nat} {draws : Bool} (hd : pol.dyn f = false) (hz : pol.keys f (1000000 + id) = []) (h : WO P pol f ops ops.toList (Q .normal) fr H) : WE P pol f (.region id ops draws) Q fr H := WE.regionZ hd (h.mono fun _ _ => FrzK.nil hz)
theorem WE.region_plain {id : Nat} (hz : pol.keys f (1000000 + id) = []) (h : WO P pol f ops ops.toList (Q .normal) fr H) : WE P pol f (.region id ops false) Q fr H := WE.region_plainZ (h.mono fun _ _ => FrzK.nil hz)
theorem WE.region_calm {id : Nat} {draws : Bool} (hc : (edgesOk ops && calmB ops) = true) (hz : pol.keys f (1000000 + id) = []) (h : WO P pol f ops ops.toList (Q .normal) fr H) : WE P pol f (.region id ops draws) Q fr H := WE.region_calmZ hc (h.mono fun _ _ => FrzK.nil hz)
theorem WE.cond {c : Operand} {x y : Code} (b : Bool) (hc : ev fr.slots c = some (.val (.bool b))) (ht : b = true → WE P pol f x Q fr H) (hf : b = false → WE P pol f y Q fr H) : WE P pol f (.cond c x y) Q fr H := by
  cases b with
  | true => obtain ⟨ex, fr1, H1, h1, h2⟩ := ht rfl; exact ⟨ex, fr1, H1, Ex.cond true hc h1, h2⟩
  | false => obtain ⟨ex, fr1, H1, h1, h2⟩ := hf rfl; exact ⟨ex, fr1, H1, Ex.cond false hc h1, h2⟩
theorem WE.block {id : Nat} {c : Code} (h : WE P pol f c (PostV.inBlock id Q) fr H) : WE P pol f (.block id c) Q fr H := by
  obtain ⟨ex, fr1, H1, h1, h2⟩ := h
  refine ⟨_, fr1, H1, Ex.block h1, ?_⟩
  cases ex with
  | normal => exact h2
  | exit id' =>
    simp only [PostV.inBlock] at h2
    simp only
    split
    · rename_i he; rw [if_pos he] at h2; exact h2
    · rename_i he; rw [if_neg he] at h2; exact h2
  | ret => exact h2
theorem WE.scope {c : Code} (h : WE P pol f c Q fr H) : WE P pol f (.scope c) Q fr H := by
  obtain ⟨ex, fr1, H1, h1, h2⟩ := h
  exact ⟨ex, fr1, H1, Ex.scope h1, h2⟩
theorem WE.mono {c : Code} {Q' : PostV} (h : WE P pol f c Q fr H) (hq : ∀ e fr H, Q e fr H → Q' e fr H) : WE P pol f c Q' fr H := by
  obtain ⟨ex, fr1, H1, h1, h2⟩ := h
  exact ⟨ex, fr1, H1, h1, hq _ _ _ h2⟩

/-- a loop: what holds at its head, and what shrinks -/
theorem WE.loop {c : Code} (I : Nat → Fr → Hp → Prop) (n : Nat) (h0 : I n fr H)
    (hr : ∀ n fr H, I n fr H → WE P pol f c (PostV.seq (fun fr' H' => ∃ m, m < n ∧ I m fr' H') Q) fr H) : WE P pol f (.loop c) Q fr H := by
  induction n using Nat.strongRecOn generalizing fr H with
  | ind n ih =>
    obtain ⟨ex, fr1, H1, h1, h2⟩ := hr n fr H h0
    cases ex with
    | normal =>
      obtain ⟨m, hm, hI⟩ := h2
      obtain ⟨ex2, fr2, H2, h3, h4⟩ := ih m hm hI
      exact ⟨ex2, fr2, H2, Ex.loop_round h1 h3, h4⟩
    | exit id => exact ⟨_, _, _, Ex.loop_out (by simp) h1, h2⟩
    | ret => exact ⟨_, _, _, Ex.loop_out (by simp) h1, h2⟩

/-- what a body must leave for its call to come to r, b, H' -/
def Left (P : Program) (pol : Pol) (f : FuncId) (fn : Func) (args : List RV) (R : List RV → List RV → Hp → Prop) : PostV := fun e fr H =>
  (e = .normal ∨ e = .ret) ∧ ∃ r tab b tab', resultsV P (pol.frz f) fn fr = some (r, tab) ∧ backs (pol.mode f) tab 0 args = some (b, tab') ∧ lentOk (pol.mode f) tab' 0 args = true ∧ R r b H

theorem Runs.of_we {fn : Func} {c : Code} {args : List RV} {R : List RV → List RV → Hp → Prop} (he : pol.ext f = none) (hf : P.funcs[f]? = some fn) (hb : fn.body = some c)
    (hn : (fn.name == "runtime.NumGoroutine" || decide (fn.ntmps < args.length) || !args.all okArg) = false)
    (h : WE P pol f c (Left P pol f fn args R) ⟨argSlots 0 args ++ List.replicate (fn.ntmps - args.length) (.val .undef), argTab args ++ List.replicate (fn.ntmps - args.length) (.gone 0)⟩ H) :
    ∃ r b H', Runs P pol f args H (r, b, H') ∧ R r b H' := by
  obtain ⟨ex, fr, H', h1, hex, r, tab, b, tab', e1, e2, e3, e4⟩ := h
  exact ⟨r, b, H', Runs.of_ex he hf hb hn hex h1 e1 e2 e3, e4⟩

end
end Go.Vi

/-
  Operations told backwards, for simp.
-/
namespace Go.Vi
set_option linter.unusedVariables false
set_option linter.unusedSimpArgs false

section
variable {P : Program} {pol : Pol} {f : FuncId} {ops : Array Oper} {K : Fr → Hp → Prop} {slots : List SV} {tab : List TC} {H : Hp} {l : List Oper} {d : Option Tmp} {ty : TypeId} {pos : String} {after : Array Edge} {g : Option (Nat × Bool)}

theorem WO.nil_iff {fr : Fr} : WO P pol f ops [] K fr H ↔ K fr H := by
  refine ⟨fun ⟨fr', H', ⟨k, h⟩, hk⟩ => ?_, WO.nil⟩
  simp only [opsV, Option.some.injEq, Prod.mk.injEq] at h
  obtain ⟨rfl, rfl⟩ := h
  exact hk

/-- an operation that only tells a value -/
theorem WO.pure {op : Op} (hop : ∀ call, stepV P pol (pol.keys f) call d (ev slots) tab H op = (pureV P (ev slots) op).map fun v => ⟨v, tab, H⟩)
    (hw : Region.wanted ⟨d, op, ty, pos, after, g⟩ (yieldedV ops slots) = true) (h : ∃ s, pureV P (ev slots) op = some s ∧ WO P pol f ops l K ⟨putS slots d s, tab⟩ H) : WO P pol f ops (⟨d, op, ty, pos, after, g⟩ :: l) K ⟨slots, tab⟩ H := by
  obtain ⟨s, h1, h2⟩ := h
  refine WO.step (fun call => ?_) h2
  unfold opV
  rw [if_pos hw]
  simp only [hop, h1, Option.map_some, Fr.put_eq]

/-- an operation whose guard is shut -/
theorem WO.shut {op : Op} (hw : Region.wanted ⟨d, op, ty, pos, after, g⟩ (yieldedV ops slots) = false) (h : WO P pol f ops l K ⟨putS slots d (.val .undef), tab⟩ H) : WO P pol f ops (⟨d, op, ty, pos, after, g⟩ :: l) K ⟨slots, tab⟩ H := by
  refine WO.step (fun call => ?_) h
  unfold opV
  rw [if_neg (by rw [hw]; simp), Fr.put_eq]

/-- any operation that calls nobody -/
theorem WO.any {op : Op} (hw : Region.wanted ⟨d, op, ty, pos, after, g⟩ (yieldedV ops slots) = true) {s : St} (hs : ∀ call, stepV P pol (pol.keys f) call d (ev slots) tab H op = some s) (h : WO P pol f ops l K ⟨putS slots d s.v, s.tab⟩ s.hp) :
    WO P pol f ops (⟨d, op, ty, pos, after, g⟩ :: l) K ⟨slots, tab⟩ H := by
  refine WO.step (fun call => ?_) h
  unfold opV
  rw [if_pos hw]
  simp only [hs, Fr.put_eq]

end
end Go.Vi
