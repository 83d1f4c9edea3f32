import Derived.Test.YtanollmhbjlimaaDoorPlx14
import Derived.Test.YtanollmhbjlimaaDoorPxLexLaws
set_option linter.unusedSimpArgs false
set_option linter.unusedVariables false
/- What all five laws need of the plain spec. -/
namespace Go.Proofs.YtanollmhbjlimaaDoor.Pure
open Go.RowKit Go.Proofs.YtanollmhbjlimaaDoor.Pl Go.Proofs.YtanollmhbjlimaaDoor.Kn Go.Proofs.YtanollmhbjlimaaDoor.Lx Go.Proofs.YtanollmhbjlimaaDoorW.PrintWords
theorem awake_f : privitylaw26_awake.f = some true := by
  have h1 : lexer_Lex.f (⟨#[120, 49, 32, 61, 32, 49, 50, 97, 98]⟩ : ByteArray) = some ([⟨1, ⟨#[120, 49]⟩, 0, 0⟩, ⟨4, ⟨#[61]⟩, 0, 3⟩, ⟨2, ⟨#[49, 50]⟩, 12, 5⟩, ⟨1, ⟨#[97, 98]⟩, 0, 7⟩], 0, 0) := by kernel_rfl
  have h2 : lexer_Lex.f (⟨#[97, 32, 36]⟩ : ByteArray) = some ([], 2, 3) := by kernel_rfl
  have h3 : lexer_IsName.f (⟨#[120, 49]⟩ : ByteArray) = some true := by kernel_rfl
  have h4 : lexer_IsName.f (⟨#[102, 111, 114]⟩ : ByteArray) = some false := by kernel_rfl
  unfold privitylaw26_awake.f
  rw [h1, h2, h3, h4]
  simp [rd_T31, ByteArray.toList_eq]
theorem lex_f (s : ByteArray) (h : s.size ≤ 20000) : lexer_Lex.f s = some (lexR (Px.lexA 0 s.data.toList)) := by
  unfold lexer_Lex.f
  rw [if_pos (by omega), if_neg (by omega)]
theorem size_list (s : ByteArray) : s.data.toList.length = s.size := by rw [Array.length_toList]; rfl
theorem lexA_len : ∀ a l, match Px.lexA a l with
    | .ok ts => ts.length ≤ l.length
    | .error _ => True := by
  refine Px.lex_induction (fun _ l r => match r with | .ok ts => ts.length ≤ l.length | .error _ => True) ?_ ?_ ?_
  · intro a l _; exact Nat.zero_le _
  · intros; trivial
  · intro a l t hne ht r ih
    cases r with
    | error e => trivial
    | ok ts =>
      have h1 := Px.take_ne ht
      have h2 : 0 < (l.drop (Px.ws false l)).length := List.length_pos_iff.2 hne
      have ih : ts.length ≤ ((l.drop (Px.ws false l)).drop t.text.length).length := ih
      show (_ :: ts).length ≤ l.length
      simp only [List.length_drop, List.length_cons] at *
      omega
theorem lexR_len (s : ByteArray) : (lexR (Px.lexA 0 s.data.toList)).1.length ≤ s.size := by
  have := lexA_len 0 s.data.toList
  rw [← size_list]
  cases h : Px.lexA 0 s.data.toList with
  | error e => simp [lexR]
  | ok ts => rw [h] at this; simpa [lexR] using this
theorem same_f {l m : List S31} {a : Bool} (h : l.length ≤ 140737488351232) (h2 : m.length ≤ 140737488351232) : privityref26_Same.f l m a = some (sameToks l m a) := by
  unfold privityref26_Same.f; rw [if_pos ⟨h, h2⟩]
theorem same_refl (l : List S31) (a : Bool) : sameToks l l a = true := by
  refine same_all rfl ?_
  intro j x y _ h1 h2
  rw [h1] at h2
  cases h2
  simp [sameTok]
theorem bytes_at (l : Px.Bs) : (⟨l.toArray⟩ : ByteArray).toList = l := by rw [ByteArray.toList_eq]
theorem same_bare (l m : List Px.Tok) (h : l.map Px.bare = m.map Px.bare) : sameToks (l.map tokS) (m.map tokS) true = true := by
  have hl : l.length = m.length := by simpa using congrArg List.length h
  refine same_all (by simpa using hl) ?_
  intro j x y hj h1 h2
  rw [List.getElem?_map] at h1 h2
  have hb : (l.map Px.bare)[j]? = (m.map Px.bare)[j]? := by rw [h]
  rw [List.getElem?_map, List.getElem?_map] at hb
  cases hlj : l[j]? with
  | none => rw [hlj] at h1; cases h1
  | some u =>
    cases hmj : m[j]? with
    | none => rw [hmj] at h2; cases h2
    | some v =>
      rw [hlj] at h1 hb; rw [hmj] at h2 hb
      simp only [Option.map_some, Option.some.injEq] at h1 h2 hb
      subst h1; subst h2
      have e1 : (Px.bare u).kind = (Px.bare v).kind := congrArg Px.Tok.kind hb
      change u.kind = v.kind at e1
      have e2 : (Px.bare u).text = (Px.bare v).text := congrArg Px.Tok.text hb
      change u.text = v.text at e2
      have e3 : (Px.bare u).num = (Px.bare v).num := congrArg Px.Tok.num hb
      change u.num = v.num at e3
      simp [sameTok, tokS, e1, e2, e3]
end Go.Proofs.YtanollmhbjlimaaDoor.Pure
