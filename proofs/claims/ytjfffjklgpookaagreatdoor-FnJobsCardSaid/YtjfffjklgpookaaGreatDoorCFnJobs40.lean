import Derived.Test.YtjfffjklgpookaaGreatDoorCFnJobs25
import Derived.Test.YtjfffjklgpookaaGreatDoorCFnJobs34
import Derived.Test.YtjfffjklgpookaaGreatDoorCFnJobs39
set_option linter.unusedVariables false
set_option linter.unusedSimpArgs false
section
namespace Go.Proofs.YtjfffjklgpookaaGreatDoor.PJ
open Go.RowKit Go.Proofs.YtjfffjklgpookaaGreatDoorW.PrintWords Go.Proofs.YtjfffjklgpookaaGreatDoorB
theorem z47 : (⟨#[47]⟩ : ByteArray).size = 1 := rfl
theorem z32 : (⟨#[32]⟩ : ByteArray).size = 1 := rfl
theorem z10 : (⟨#[10]⟩ : ByteArray).size = 1 := rfl
theorem zname : (⟨#[110, 97, 109, 101, 32]⟩ : ByteArray).size = 5 := rfl
theorem zpages : (⟨#[10, 112, 97, 103, 101, 115, 32]⟩ : ByteArray).size = 7 := rfl
theorem ztrim : (⟨#[10, 116, 114, 105, 109, 32]⟩ : ByteArray).size = 6 := rfl
theorem zpaper : (⟨#[10, 112, 97, 112, 101, 114, 32]⟩ : ByteArray).size = 7 := rfl
theorem zunit : (⟨#[10, 117, 110, 105, 116, 32]⟩ : ByteArray).size = 6 := rfl
theorem zcopies : (⟨#[10, 99, 111, 112, 105, 101, 115, 32]⟩ : ByteArray).size = 8 := rfl
theorem ytrim : (⟨#[116, 114, 105, 109]⟩ : ByteArray).size = 4 := rfl
def paperB (a b : Int) : ByteArray := (itoaB a ++ (⟨#[47]⟩ : ByteArray)) ++ itoaB b
def Small (n : Int) : Prop := 0 ≤ n ∧ n ≤ 1000000
theorem small_le {n : Int} (h : Small n) : (itoaB n).size ≤ 21 := itoaB_le (by have := h; unfold Small at this; omega) (by have := h; unfold Small at this; omega)
theorem small_dec {n : Int} (h : Small n) : impl_decimal.f n = some (itoaB n) := impl_decimal_eq (by have := h; unfold Small at this; omega) (by have := h; unfold Small at this; omega)
theorem small_ev {n : Int} (h : Small n) : Ev (fun k => spec_l01Dec.f k n) (itoaB n) := spec_l01Dec_ev h.1 (by have := h; unfold Small at this; omega)
theorem spec_PaperText_ev {a b : Int} (h : paperOk a b = true) : Ev (fun k => spec_PaperText.f k a b) (paperB a b) := by
 have h' : 30 ≤ a ∧ a ≤ 500 ∧ 50 ≤ b ∧ b ≤ 300 := by simpa [paperOk] using h
 have ha : Small a := ⟨by omega, by omega⟩
 have hb : Small b := ⟨by omega, by omega⟩
 have sa := small_le ha
 have sb := small_le hb
 unfold spec_PaperText.f
 refine Ev.bind (Ev.eq (spec_IsPaper_eq a b)) (Ev.pos h (Ev.bind (small_ev ha) (Ev.pos (by omega) (Ev.bind (small_ev hb) (Ev.pos (by simp only [bj_size, z47]; omega) (Ev.eq rfl))))))
theorem impl_PaperText_eq {a b : Int} (h : paperOk a b = true) : impl_PaperText.f a b = some (paperB a b) := by
 have h' : 30 ≤ a ∧ a ≤ 500 ∧ 50 ≤ b ∧ b ≤ 300 := by simpa [paperOk] using h
 have ha : Small a := ⟨by omega, by omega⟩
 have hb : Small b := ⟨by omega, by omega⟩
 have sa := small_le ha
 have sb := small_le hb
 unfold impl_PaperText.f
 rw [impl_IsPaper_eq, Option.bind_some, if_pos h, small_dec ha, Option.bind_some, if_pos (by omega), small_dec hb, Option.bind_some, if_pos (by simp only [bj_size, z47]; omega)]
 rfl
theorem paperB_le {a b : Int} (h : paperOk a b = true) : (paperB a b).size ≤ 43 := by
 have h' : 30 ≤ a ∧ a ≤ 500 ∧ 50 ≤ b ∧ b ≤ 300 := by simpa [paperOk] using h
 have sa := small_le (n := a) ⟨by omega, by omega⟩
 have sb := small_le (n := b) ⟨by omega, by omega⟩
 simp only [paperB, bj_size, z47]; omega
def trimB (a b c d : Int) : ByteArray := joinFrom (⟨#[32]⟩ : ByteArray) 0 ⟨#[]⟩ [a, b, c, d]
theorem nil_app (a : ByteArray) : (⟨#[]⟩ : ByteArray) ++ a = a := by
 refine ba_ext ?_
 rw [ByteArray.data_append, Array.toList_append]; rfl
theorem trimB_eq (a b c d : Int) : trimB a b c d = itoaB a ++ (⟨#[32]⟩ : ByteArray) ++ itoaB b ++ (⟨#[32]⟩ : ByteArray) ++ itoaB c ++ (⟨#[32]⟩ : ByteArray) ++ itoaB d := by
 simp only [trimB, joinFrom, nil_app, if_true, if_neg (show ¬ (0 + 1 = 0) by decide), if_neg (show ¬ (0 + 1 + 1 = 0) by decide), if_neg (show ¬ (0 + 1 + 1 + 1 = 0) by decide)]
def jobB (s : ByteArray) (p t0 t1 t2 t3 a b u c : Int) : ByteArray :=
 (((((((((((((⟨#[110, 97, 109, 101, 32]⟩ : ByteArray) ++ s) ++ (⟨#[10, 112, 97, 103, 101, 115, 32]⟩ : ByteArray)) ++ itoaB p) ++ (⟨#[10, 116, 114, 105, 109, 32]⟩ : ByteArray)) ++ trimB t0 t1 t2 t3) ++ (⟨#[10, 112, 97, 112, 101, 114, 32]⟩ : ByteArray)) ++ paperB a b) ++ (⟨#[10, 117, 110, 105, 116, 32]⟩ : ByteArray)) ++ itoaB u) ++ (⟨#[10, 99, 111, 112, 105, 101, 115, 32]⟩ : ByteArray)) ++ itoaB c) ++ (⟨#[10]⟩ : ByteArray))
noncomputable def jobText (s : ByteArray) (p t0 t1 t2 t3 a b u c : Int) : ByteArray × Int :=
 if jobOk s p t0 t1 t2 t3 a b u c = true then (jobB s p t0 t1 t2 t3 a b u c, 0) else (⟨#[]⟩, 1)
open Classical in
theorem jobOk_small {s : ByteArray} {p t0 t1 t2 t3 a b u c : Int} (h : jobOk s p t0 t1 t2 t3 a b u c = true) : s.size ≤ 12 ∧ Small p ∧ Small t0 ∧ Small t1 ∧ Small t2 ∧ Small t3 ∧ paperOk a b = true ∧ Small u ∧ Small c := by
 obtain ⟨h1, h2, h3, h4, h5, h6⟩ := jobOk_iff h
 have h3' : 1 ≤ t0 ∧ t0 ≤ 20000 ∧ 1 ≤ t1 ∧ t1 ≤ 20000 ∧ 0 ≤ t2 ∧ t2 ≤ 20000 ∧ 0 ≤ t3 ∧ t3 ≤ 20000 := by simpa [trimOk] using h3
 have h5' : u = 4 ∨ u = 8 ∨ u = 16 ∨ u = 32 ∨ u = 64 ∨ u = 128 := by simpa [unitOk] using h5
 have h1' : s.size ≤ 12 := by
  unfold nameOk at h1
  have h1b : lettersFrom s 0 ∧ 1 ≤ s.size ∧ s.size ≤ 12 := by rw [decide_eq_true_eq] at h1; exact h1
  exact h1b.2.2
 exact ⟨h1', ⟨by omega, by omega⟩, ⟨by omega, by omega⟩, ⟨by omega, by omega⟩, ⟨by omega, by omega⟩, ⟨by omega, by omega⟩, h4, ⟨by omega, by omega⟩, ⟨by omega, by omega⟩⟩
theorem spec_JobText_ev {s : ByteArray} (hs : s.size ≤ 9223372036854775806) (p t0 t1 t2 t3 a b u c : Int) : Ev (fun k => spec_JobText.f k s p t0 t1 t2 t3 a b u c) (jobText s p t0 t1 t2 t3 a b u c) := by
 unfold spec_JobText.f jobText
 refine Ev.bind (spec_IsJob_ev hs p t0 t1 t2 t3 a b u c) (Ev.ite (fun hj => ?_) (fun hj => Ev.eq (by rw [if_neg hj])))
 rw [if_pos hj]
 obtain ⟨h12, hp, h0, h1, h2, h3, hab, hu, hc⟩ := jobOk_small hj
 have e : ∀ x ∈ [t0, t1, t2, t3], -9223372036854775807 ≤ x ∧ x ≤ 9223372036854775807 := by
  intro x hx
  simp only [List.mem_cons, List.not_mem_nil, or_false] at hx
  unfold Small at h0 h1 h2 h3
  rcases hx with rfl | rfl | rfl | rfl <;> omega
 have sp := small_le hp
 have s0 := small_le h0
 have s1 := small_le h1
 have s2 := small_le h2
 have s3 := small_le h3
 have su := small_le hu
 have sc := small_le hc
 have sab := paperB_le hab
 have st : (trimB t0 t1 t2 t3).size ≤ 87 := by simp only [trimB_eq, bj_size, z32]; omega
 refine Ev.bind (spec_l01Join_ev (l := [t0, t1, t2, t3]) (by simp) (by decide) e) ?_
 change Ev _ _
 have ht : joinFrom (⟨#[32]⟩ : ByteArray) 0 ⟨#[]⟩ [t0, t1, t2, t3] = trimB t0 t1 t2 t3 := rfl
 rw [ht]
 refine Ev.pos (by omega) (Ev.pos (by simp only [bj_size, zname]; omega) (Ev.bind (small_ev hp) (Ev.pos (by simp only [bj_size, zname, zpages]; omega) (Ev.pos (by simp only [bj_size, zname, zpages]; omega) (Ev.pos (by simp only [bj_size, zname, zpages, ztrim]; omega) (Ev.pos (by simp only [bj_size, zname, zpages, ztrim]; omega)
  (Ev.bind (spec_PaperText_ev hab) (Ev.pos (by simp only [bj_size, zname, zpages, ztrim, zpaper]; omega) (Ev.pos (by simp only [bj_size, zname, zpages, ztrim, zpaper]; omega) (Ev.bind (small_ev hu) (Ev.pos (by simp only [bj_size, zname, zpages, ztrim, zpaper, zunit]; omega) (Ev.pos (by simp only [bj_size, zname, zpages, ztrim, zpaper, zunit]; omega)
  (Ev.bind (small_ev hc) (Ev.pos (by simp only [bj_size, zname, zpages, ztrim, zpaper, zunit, zcopies]; omega) (Ev.pos (by simp only [bj_size, zname, zpages, ztrim, zpaper, zunit, zcopies]; omega) (Ev.eq rfl))))))))))))))))
theorem impl_JobText_ev {s : ByteArray} (hs : s.size ≤ 9223372036854775806) (p t0 t1 t2 t3 a b u c : Int) : Ev (fun k => impl_JobText.f k s p t0 t1 t2 t3 a b u c) (jobText s p t0 t1 t2 t3 a b u c) := by
 unfold impl_JobText.f jobText
 refine Ev.bind (impl_IsJob_ev hs p t0 t1 t2 t3 a b u c) (Ev.ite (fun hj => ?_) (fun hj => Ev.eq (by rw [if_neg hj])))
 rw [if_pos hj]
 obtain ⟨h12, hp, h0, h1, h2, h3, hab, hu, hc⟩ := jobOk_small hj
 have sp := small_le hp
 have s0 := small_le h0
 have s1 := small_le h1
 have s2 := small_le h2
 have s3 := small_le h3
 have su := small_le hu
 have sc := small_le hc
 have sab := paperB_le hab
 have st : (trimB t0 t1 t2 t3).size ≤ 87 := by simp only [trimB_eq, bj_size, z32]; omega
 have e1 : joinB [(⟨#[116, 114, 105, 109]⟩ : ByteArray), itoaB t0, itoaB t1, itoaB t2, itoaB t3] (⟨#[32]⟩ : ByteArray) = (⟨#[116, 114, 105, 109]⟩ : ByteArray) ++ ((⟨#[32]⟩ : ByteArray) ++ trimB t0 t1 t2 t3) := by
  simp only [joinB_two, joinB_one, trimB_eq]
  refine ba_ext ?_
  simp only [ByteArray.data_append, Array.toList_append, List.append_assoc]
 have j1 : strings_Join.f [(⟨#[116, 114, 105, 109]⟩ : ByteArray), itoaB t0, itoaB t1, itoaB t2, itoaB t3] (⟨#[32]⟩ : ByteArray) = some ((⟨#[116, 114, 105, 109]⟩ : ByteArray) ++ ((⟨#[32]⟩ : ByteArray) ++ trimB t0 t1 t2 t3)) := by
  rw [strings_Join_eq (by simp) (by rw [e1]; simp only [bj_size, ytrim, z32]; omega), e1]
 have e2 : joinB [(⟨#[110, 97, 109, 101, 32]⟩ : ByteArray) ++ s, (⟨#[112, 97, 103, 101, 115, 32]⟩ : ByteArray) ++ itoaB p, (⟨#[116, 114, 105, 109]⟩ : ByteArray) ++ ((⟨#[32]⟩ : ByteArray) ++ trimB t0 t1 t2 t3), (⟨#[112, 97, 112, 101, 114, 32]⟩ : ByteArray) ++ paperB a b, (⟨#[117, 110, 105, 116, 32]⟩ : ByteArray) ++ itoaB u, (⟨#[99, 111, 112, 105, 101, 115, 32]⟩ : ByteArray) ++ itoaB c] (⟨#[10]⟩ : ByteArray) ++ (⟨#[10]⟩ : ByteArray) = jobB s p t0 t1 t2 t3 a b u c := by
  simp only [joinB_two, joinB_one, jobB]
  refine ba_ext ?_
  simp only [ByteArray.data_append, Array.toList_append, List.append_assoc, List.cons_append, List.nil_append]
 have hz : (jobB s p t0 t1 t2 t3 a b u c).size ≤ 1000 := by
  simp only [jobB, bj_size, zname, zpages, ztrim, zpaper, zunit, zcopies, z10]; omega
 have hz2 : (joinB [(⟨#[110, 97, 109, 101, 32]⟩ : ByteArray) ++ s, (⟨#[112, 97, 103, 101, 115, 32]⟩ : ByteArray) ++ itoaB p, (⟨#[116, 114, 105, 109]⟩ : ByteArray) ++ ((⟨#[32]⟩ : ByteArray) ++ trimB t0 t1 t2 t3), (⟨#[112, 97, 112, 101, 114, 32]⟩ : ByteArray) ++ paperB a b, (⟨#[117, 110, 105, 116, 32]⟩ : ByteArray) ++ itoaB u, (⟨#[99, 111, 112, 105, 101, 115, 32]⟩ : ByteArray) ++ itoaB c] (⟨#[10]⟩ : ByteArray)).size ≤ 1000 := by
  rw [← e2, bj_size] at hz; omega
 refine Ev.bind (Ev.eq (small_dec h0)) (Ev.bind (Ev.eq (small_dec h1)) (Ev.bind (Ev.eq (small_dec h2)) (Ev.bind (Ev.eq (small_dec h3)) (Ev.pos (by omega) (Ev.bind (Ev.eq (small_dec hp)) (Ev.pos (by omega) (Ev.bind (Ev.eq j1) (Ev.bind (Ev.eq (impl_PaperText_eq hab)) (Ev.pos (by omega) (Ev.bind (Ev.eq (small_dec hu)) (Ev.pos (by omega) (Ev.bind (Ev.eq (small_dec hc)) (Ev.pos (by omega)
  (Ev.bind (Ev.eq (strings_Join_eq (by simp) (by omega))) (Ev.pos (by omega) (Ev.eq (by rw [e2])))))))))))))))))
end Go.Proofs.YtjfffjklgpookaaGreatDoor.PJ
end
