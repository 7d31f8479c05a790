/- Rows of structs, in plain words: their cells one behind the other. No program in sight. -/
import Derived.Test.YtgimkmclgjfddaaGreatQ2
set_option linter.unusedSimpArgs false
set_option linter.unusedVariables false
set_option maxRecDepth 100000
set_option maxHeartbeats 4000000
namespace Go.Proofs.YtgimkmclgjfddaaGreat
open Go Go.RowKit
section
variable {α:Type} {c:α→List Value} {m:Nat}
theorem F9 (hm:∀x,(c x).length=m) (l:List α):(l.flatMap c).length=l.length*m:=by
 induction l with
 |nil=>simp
 |cons a r ih=>rw[List.flatMap_cons,List.length_append,ih,hm,List.length_cons,Nat.succ_mul];omega
theorem Ge (hm:∀x,(c x).length=m) (l:List α):∀(j:Nat) (x:α),l[j]?=some x→∀(i:Nat) (u:Value),(c x)[i]?=some u→(l.flatMap c)[j*m+i]?=some u:=by
 induction l with
 |nil=>intro j x h;simp at h
 |cons a r ih=>
  intro j x h i u hu
  rw[List.flatMap_cons]
  cases j with
  |zero=>
   simp at h
   subst h
   have hi:=(List.getElem?_eq_some_iff.1 hu).1
   rw[Nat.zero_mul,Nat.zero_add,List.getElem?_append_left hi]
   exact hu
  |succ j=>
   have:=ih j x (by simpa using h) i u hu
   rw[List.getElem?_append_right (by rw[hm,Nat.succ_mul];omega),hm,show(j+1)*m+i-m=j*m+i by rw[Nat.succ_mul];omega]
   exact this
theorem pD (l:List α) (x:α):(l++[x]).flatMap c=l.flatMap c++c x:=by simp
theorem zR (hm:∀x,(c x).length=m) {w:World} {g:Nat} {l:List α} {z:List Value} {t:TypeId} (h:ab w g (l.flatMap c++z) t) {j:Nat} {x:α} (hx:l[j]?=some x):w.rangeAt g (j*m) (c x):=by
 intro i u hu
 have h1:=Ge hm l j x hx i u hu
 exact h.cell (by rw[List.getElem?_append_left (List.getElem?_eq_some_iff.1 h1).1];exact h1)
theorem kz (hm:∀x,(c x).length=m) {w:World} {base n:Nat} {e:TypeId} {v:Value} {l:List α} (h:w.ownsRow base e m v n (l.flatMap c)) {j:Nat} {x:α} (hx:l[j]?=some x) (hp:0<n):∃g cap,v= .slice (some ⟨g,0,none⟩) n cap∧g<w.heap.size∧w.rangeAt g (j*m) (c x):=by
 obtain⟨g,cap,z,he,_,_,hk⟩:=cY h hp
 exact⟨g,cap,he,hk.lt,zR hm hk hx⟩
end
end Go.Proofs.YtgimkmclgjfddaaGreat
