/-
 A part of the proof: see the text of the law.
-/
set_option linter.unusedSimpArgs false
set_option linter.unusedVariables false
namespace Go.Proofs.Try
section
variable {α:Type}
structure Swo (cf:α→α→Int):Prop where
 asym:∀ x y,cf x y<0→¬ cf y x<0
 ntr:∀ x y z,cf x z<0→cf x y<0∨cf y z<0
def ltT (cf:α→α→Int) (x y:α × Nat):Prop:=cf x.1 y.1<0∨(¬ cf y.1 x.1<0∧x.2<y.2)
instance (cf:α→α→Int) (x y:α × Nat):Decidable (ltT cf x y):=by unfold ltT;infer_instance
def leT (cf:α→α→Int) (x y:α × Nat):Bool:=!decide (ltT cf y x)
def srt (cf:α→α→Int) (l:List (α × Nat)):List (α × Nat):=l.mergeSort (leT cf)
abbrev Up (cf:α→α→Int) (l:List (α × Nat)):Prop:=l.Pairwise fun x y=>leT cf x y=true
abbrev Tags (l:List (α × Nat)):Prop:=(l.map Prod.snd).Nodup
variable {cf:α→α→Int}
theorem leT_iff {x y:α × Nat}:leT cf x y=true↔¬ ltT cf y x:=by simp [leT]
theorem ltT_asym (h:Swo cf) {x y:α × Nat} (hx:ltT cf x y):¬ ltT cf y x:=by
 rcases hx with hx | ⟨h1,h2⟩
 · rintro (hy | ⟨h3,h4⟩)
   · exact h.asym _ _ hx hy
   · exact h3 hx
 · rintro (hy | ⟨h3,h4⟩)
   · exact h1 hy
   · omega
theorem ltT_ntr (h:Swo cf) {x y z:α × Nat} (hx:ltT cf x z):ltT cf x y∨ltT cf y z:=by
 by_cases h1:cf x.1 y.1<0
 · exact .inl (.inl h1)
 by_cases h2:cf y.1 z.1<0
 · exact .inr (.inl h2)
 rcases hx with hx | ⟨h3,h4⟩
 · rcases h.ntr _ y.1 _ hx with h5 | h5 <;> contradiction
 · by_cases h5:x.2<y.2
   · refine .inl (.inr ⟨fun h6=>?_,h5⟩)
     rcases h.ntr _ z.1 _ h6 with h7 | h7 <;> contradiction
   · refine .inr (.inr ⟨fun h6=>?_,by omega⟩)
     rcases h.ntr _ x.1 _ h6 with h7 | h7 <;> contradiction
theorem leT_of_lt (h:Swo cf) {x y:α × Nat} (hx:ltT cf x y):leT cf x y=true:=leT_iff.2 (ltT_asym h hx)
theorem leT_trans (h:Swo cf) (a b c:α × Nat) (h1:leT cf a b=true) (h2:leT cf b c=true):leT cf a c=true:=by
 rw [leT_iff] at *
 intro h3
 rcases ltT_ntr h (y:=b) h3 with h4 | h4
 · exact h2 h4
 · exact h1 h4
theorem ltT_of_le (h:Swo cf) {a b c:α × Nat} (h1:leT cf a b=true) (h2:ltT cf b c):ltT cf a c:=by
 rcases ltT_ntr h (y:=a) h2 with h3 | h3
 · exact absurd h3 (leT_iff.1 h1)
 · exact h3
theorem leT_total (h:Swo cf) (a b:α × Nat):(leT cf a b || leT cf b a)=true:=by
 rw [Bool.or_eq_true,leT_iff,leT_iff]
 by_cases h1:ltT cf b a
 · exact .inr (ltT_asym h h1)
 · exact .inl h1
theorem leT_refl (h:Swo cf) (a:α × Nat):leT cf a a=true:=by
 rw [leT_iff]
 intro h1
 exact ltT_asym h h1 h1
theorem leT_tag {a b:α × Nat} (h1:leT cf a b=true) (h2:leT cf b a=true):a.2=b.2:=by
 rw [leT_iff] at *
 simp only [ltT,not_or,not_and] at h1 h2
 have:=h1.2 h2.1
 have:=h2.2 h1.1
 omega
theorem tag_inj:∀ {l:List (α × Nat)},Tags l→∀ {a b:α × Nat},a ∈ l→b ∈ l→a.2=b.2→a=b
 | [],_,a,_,ha,_,_=>by simp at ha
 | x::l,h,a,b,ha,hb,e=>by
   simp only [Tags,List.map_cons,List.nodup_cons] at h
   rcases List.mem_cons.1 ha with ha | ha <;> rcases List.mem_cons.1 hb with hb | hb
   · rw [ha,hb]
   · exact absurd (List.mem_map.2 ⟨b,hb,by rw [← e,ha]⟩) h.1
   · exact absurd (List.mem_map.2 ⟨a,ha,by rw [e,hb]⟩) h.1
   · exact tag_inj h.2 ha hb e
theorem srt_perm (l:List (α × Nat)):(srt cf l).Perm l:=List.mergeSort_perm l _
theorem srt_up (h:Swo cf) (l:List (α × Nat)):Up cf (srt cf l):=List.pairwise_mergeSort (leT_trans h) (leT_total h) l
theorem srt_length (l:List (α × Nat)):(srt cf l).length=l.length:=(srt_perm l).length_eq
theorem srt_mem {l:List (α × Nat)} {x:α × Nat}:x ∈ srt cf l↔x ∈ l:=(srt_perm l).mem_iff
theorem srt_eq (h:Swo cf) {l m:List (α × Nat)} (ht:Tags l) (hp:m.Perm l) (hm:Up cf m):m=srt cf l:=by
 refine List.Perm.eq_of_pairwise (fun a b ha hb h1 h2=>?_) hm (srt_up h l) (hp.trans (srt_perm l).symm)
 exact tag_inj ht (hp.mem_iff.1 ha) (srt_mem.1 hb) (leT_tag h1 h2)
theorem srt_self (h:Swo cf) {l:List (α × Nat)} (ht:Tags l) (hl:Up cf l):srt cf l=l:=(srt_eq h ht (.refl _) hl).symm
theorem srt_congr (h:Swo cf) {l m:List (α × Nat)} (ht:Tags l) (hp:m.Perm l):srt cf m=srt cf l :=
 srt_eq h ht ((srt_perm m).trans hp) (srt_up h m)
theorem srt_app (h:Swo cf) {a b:List (α × Nat)} (ht:Tags (a++b)) (hc:∀ x ∈ a,∀ y ∈ b,leT cf x y=true):srt cf a++srt cf b=srt cf (a++b):=by
 refine srt_eq h ht ((srt_perm a).append (srt_perm b)) (List.pairwise_append.2 ⟨srt_up h a,srt_up h b,fun x hx y hy=>hc x (srt_mem.1 hx) y (srt_mem.1 hy)⟩)
theorem Tags.left {a b:List (α × Nat)} (h:Tags (a++b)):Tags a:=by
 unfold Tags at *
 rw [List.map_append,List.nodup_append] at h
 exact h.1
theorem Tags.right {a b:List (α × Nat)} (h:Tags (a++b)):Tags b:=by
 unfold Tags at *
 rw [List.map_append,List.nodup_append] at h
 exact h.2.1
theorem Tags.perm {a b:List (α × Nat)} (hp:a.Perm b) (h:Tags b):Tags a:=(hp.map Prod.snd).nodup_iff.2 h
theorem lt_cf {x y:α × Nat} (ht:x.2≤y.2):ltT cf y x↔cf y.1 x.1<0:=by
 unfold ltT
 constructor
 · rintro (h | ⟨_,h⟩)
   · exact h
   · omega
 · exact .inl
theorem up_get {l:List (α × Nat)} (h:Swo cf) (hl:Up cf l) {i j:Nat} (hij:i≤j) (hj:j<l.length):leT cf (l[i]'(by omega)) l[j]=true:=by
 by_cases e:i=j
 · subst e;exact leT_refl h _
 · exact (List.pairwise_iff_getElem.1 hl) i j (by omega) hj (by omega)
theorem put_up (h:Swo cf) {r:List (α × Nat)} (hr:Up cf r) {x:α × Nat} {p:Nat} (hp:p≤r.length) (h1:∀ y ∈ r.take p,leT cf y x=true) (h2:∀ y ∈ r.drop p,leT cf x y=true):Up cf (r.take p++x::r.drop p):=by
 have h3:Up cf (r.take p++r.drop p):=by rw [List.take_append_drop];exact hr
 obtain ⟨h4,h5,h6⟩:=List.pairwise_append.1 h3
 refine List.pairwise_append.2 ⟨h4,List.pairwise_cons.2 ⟨h2,h5⟩,fun a ha b hb=>?_⟩
 rcases List.mem_cons.1 hb with rfl | hb
 · exact h1 a ha
 · exact h6 a ha b hb
theorem put_perm {r:List (α × Nat)} {x:α × Nat} {p:Nat}:(r.take p++x::r.drop p).Perm (x::r):=by
 have:=List.perm_middle (a:=x) (l₁:=r.take p) (l₂:=r.drop p)
 rwa [List.take_append_drop] at this
theorem cut_ok (h:Swo cf) {L R:List (α × Nat)} (hL:Up cf L) (hR:Up cf R) {s t:Nat} (hs:s≤L.length) (ht:t≤R.length)
 (h1:0<s→∀ (ht:t<R.length),leT cf (L.getD (s - 1) R[t]) R[t]=true) (h2:0<t→∀ (hs:s<L.length),leT cf (R.getD (t - 1) L[s]) L[s]=true) :
 ∀ x ∈ L.take s++R.take t,∀ y ∈ L.drop s++R.drop t,leT cf x y=true:=by
 have key:∀ (A B:List (α × Nat)),Up cf A→Up cf B→∀ (p q:Nat),p≤A.length→q≤B.length→(0<p→∀ (hq:q<B.length),leT cf (A.getD (p - 1) B[q]) B[q]=true)→∀ x ∈ A.take p,∀ y ∈ B.drop q,leT cf x y=true:=by
  intro A B hA hB p q hp hq hh x hx y hy
  obtain ⟨i,hi,rfl⟩:=List.mem_take_iff_getElem.1 hx
  obtain ⟨j,hj,rfl⟩:=List.mem_drop_iff_getElem.1 hy
  have hi':i<p∧i<A.length:=by omega
  have h3:=hh (by omega) (by omega)
  have hpl:p - 1<A.length:=by omega
  rw [List.getD_eq_getElem?_getD,List.getElem?_eq_getElem hpl,Option.getD_some] at h3
  exact leT_trans h _ _ _ (up_get h hA (show i≤p - 1 by omega) hpl) (leT_trans h _ _ _ h3 (up_get h hB (show q≤q+j by omega) (by omega)))
 intro x hx y hy
 rcases List.mem_append.1 hx with hx | hx <;> rcases List.mem_append.1 hy with hy | hy
 · have h3:Up cf (L.take s++L.drop s):=by rw [List.take_append_drop];exact hL
   exact (List.pairwise_append.1 h3).2.2 x hx y hy
 · exact key L R hL hR s t hs ht h1 x hx y hy
 · exact key R L hR hL t s ht hs h2 x hx y hy
 · have h3:Up cf (R.take t++R.drop t):=by rw [List.take_append_drop];exact hR
   exact (List.pairwise_append.1 h3).2.2 x hx y hy
theorem Up.take {l:List (α × Nat)} (h:Up cf l) (n:Nat):Up cf (l.take n):=h.sublist (List.take_sublist _ _)
theorem Up.drop {l:List (α × Nat)} (h:Up cf l) (n:Nat):Up cf (l.drop n):=h.sublist (List.drop_sublist _ _)
theorem cut_perm (L R:List (α × Nat)) (s t:Nat):((L.take s++R.take t)++(L.drop s++R.drop t)).Perm (L++R):=by
 have h1:((L.take s++R.take t)++(L.drop s++R.drop t)).Perm ((L.take s++L.drop s)++(R.take t++R.drop t)):=by
  rw [List.append_assoc,List.append_assoc]
  refine List.Perm.append_left _ ?_
  rw [← List.append_assoc,← List.append_assoc]
  exact List.Perm.append_right _ List.perm_append_comm
 rwa [List.take_append_drop,List.take_append_drop] at h1
theorem merge_cut (h:Swo cf) {L R:List (α × Nat)} (hL:Up cf L) (hR:Up cf R) (ht:Tags (L++R)) {s t:Nat}
 (hc:∀ x ∈ L.take s++R.take t,∀ y ∈ L.drop s++R.drop t,leT cf x y=true) :
 srt cf (L.take s++R.take t)++srt cf (L.drop s++R.drop t)=srt cf (L++R):=by
 rw [srt_app h ((ht).perm (cut_perm L R s t)) hc]
 exact srt_congr h ht (cut_perm L R s t)
inductive Bl (cf:α→α→Int) (k:Nat):List (α × Nat)→List (α × Nat)→Prop
 | last {l:List (α × Nat)}:l.length≤k→Bl cf k l (srt cf l)
 | cons {a l m:List (α × Nat)}:a.length=k→Bl cf k l m→Bl cf k (a++l) (srt cf a++m)
inductive Fb (cf:α→α→Int) (k:Nat):List (α × Nat)→List (α × Nat)→Prop
 | nil:Fb cf k [] []
 | snoc {a l m:List (α × Nat)}:Fb cf k l m→a.length=k→Fb cf k (l++a) (m++srt cf a)
theorem srt_nil:srt cf ([]:List (α × Nat))=[]:=by simp [srt]
theorem Fb.length {k:Nat} {l m:List (α × Nat)} (h:Fb cf k l m):m.length=l.length:=by
 induction h with
 | nil=>rfl
 | snoc _ _ ih=>simp [ih,srt_length]
theorem Bl.length {k:Nat} {l m:List (α × Nat)} (h:Bl cf k l m):m.length=l.length:=by
 induction h with
 | last _=>exact srt_length _
 | cons _ _ ih=>simp [ih,srt_length]
theorem Fb.join {k:Nat} {l m:List (α × Nat)} (h:Fb cf k l m):∀ {l2 m2:List (α × Nat)},Bl cf k l2 m2→Bl cf k (l++l2) (m++m2):=by
 induction h with
 | nil=>exact fun h=>h
 | snoc _ ha ih =>
   intro l2 m2 h2
   rw [List.append_assoc,List.append_assoc]
   exact ih (.cons ha h2)
theorem Bl.done {k:Nat} {l m:List (α × Nat)} (h:Bl cf k l m) (hk:0<k) (hl:l.length≤k):m=srt cf l:=by
 induction h with
 | last _=>rfl
 | @cons a l m ha h2 ih =>
   simp only [List.length_append] at hl
   have hl0:l=[]:=List.eq_nil_of_length_eq_zero (by omega)
   subst hl0
   rw [ih (Nat.zero_le _),srt_nil,List.append_nil,List.append_nil]
theorem Bl.split {k:Nat} {l m:List (α × Nat)} (h:Bl cf k l m) (hk:k≤l.length):∃ m',m=srt cf (l.take k)++m'∧Bl cf k (l.drop k) m':=by
 cases h with
 | last hl =>
   refine ⟨[],?_,?_⟩
   · rw [List.take_of_length_le hl,List.append_nil]
   · rw [List.drop_eq_nil_of_le hl];have h0:Bl cf k [] (srt cf []):=.last (Nat.zero_le k)
     rw [srt_nil] at h0;exact h0
 | @cons a l m ha h2 =>
   refine ⟨m,?_,?_⟩
   · rw [← ha,List.take_left]
   · rw [← ha,List.drop_left,ha];exact h2
def tagged (l:List α):List (α × Nat):=l.zipIdx
theorem tagged_fst (l:List α):(tagged l).map Prod.fst=l:=by simp [tagged]
theorem tagged_tags (l:List α):Tags (tagged l):=by
 unfold Tags tagged
 rw [List.zipIdx_map_snd]
 exact List.nodup_range'
theorem tagged_pair (l:List α):(tagged l).Pairwise fun x y=>x.2<y.2:=by
 have:((tagged l).map Prod.snd).Pairwise (· < ·):=by
  unfold tagged
  rw [List.zipIdx_map_snd]
  exact List.pairwise_lt_range'
 rwa [List.pairwise_map] at this
def stab (cf:α→α→Int) (l:List α):List α:=(srt cf (tagged l)).map Prod.fst
theorem stab_perm (l:List α):(stab cf l).Perm l:=by
 have:=(srt_perm (cf:=cf) (tagged l)).map Prod.fst
 rwa [tagged_fst] at this
theorem stab_mem {l:List α} {x:α}:x ∈ stab cf l↔x ∈ l:=(stab_perm l).mem_iff
theorem stab_length (l:List α):(stab cf l).length=l.length:=(stab_perm l).length_eq
theorem stab_sorted (h:Swo cf) (l:List α):(stab cf l).Pairwise fun x y=>¬ cf y x<0:=by
 unfold stab
 rw [List.pairwise_map]
 refine (srt_up h (tagged l)).imp fun {a b} hab=>?_
 rw [leT_iff] at hab
 exact fun h1=>hab (.inl h1)
end
end Go.Proofs.Try
