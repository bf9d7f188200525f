
import Derived.Test.YtadejcglcffgbacGreatDoorAbsT
import Derived.Lib.Repeat
set_option linter.unusedSimpArgs false
set_option linter.unusedVariables false
set_option linter.defProp false
namespace Go.Abs
open Go.RowKit
variable {P:Program}
def HE(n:Int):Bool:=decide (-9223372036854775808<=n)&&decide (n<=9223372036854775807)
def EH(l:aa)(n:Int):Bool:=decide (0<=n)&&(decide (n<=9223372036854775807)&&Nat.ble (l.length*n.toNat) 140737488355328)
def fmtE(f:Nat):Ent:=⟨f,λ_ args _ _ k=>match args with
 | [.i .i64 n,.i .i64 10]=>cond (HE n) (k { val:=.s (Lib.itoa n) }) none
 | _=>none⟩
def repE(f:Nat):Ent:=⟨f,λ_ args _ _ k=>match args with
 | [.s l,.i .i64 n]=>cond (EH l n) (k { val:=.s (Lib.repeatL l n.toNat) }) none
 | _=>none⟩
def Jp{f:Nat}(a:gj P f)
  (h:∀(n:Int) (_:-9223372036854775808<=n) (_:n<=9223372036854775807) (w:World) (_:GL dY w),Calls P f #[.int .i64 n,.int .i64 10] w λe w'=>e=.returned (.string ⟨(Lib.itoa n).toArray⟩)/\Below w.heap.size w w'):cN P (fmtE f):=by
 intro α args H fr k z b;simp only[fmtE]at b;split at b
 case h_2=>cases b
 rename_i n;obtain⟨h1,h2⟩:=bR b;simp only[HE,aw,aT]at h1;refine⟨_,h2,λo _=>.inl ⟨a,cK λι nb w g m i c=>?_⟩⟩;simp only[VRs,VR]at c;obtain⟨_,_,d,rfl,_,_,rfl,rfl,rfl⟩:=c;have:g=#[.int .i64 n,.int .i64 10]:=by apply gQ;simpa using d
 subst this;refine(h n h1.1 h1.2 w i).mono λe w' ⟨l,j⟩=>⟨_,l,?_,j⟩;simp only[VR]
def Kz{f:Nat}(a:gj P f)
  (h:∀(s:ByteArray) (c:Nat) (w:World) (_:c<=9223372036854775807) (_:s.size*c<=140737488355328),Calls P f #[.string s,.int .i64 c] w λe w'=>e=.returned (.string ⟨(Lib.repeatL s.data.toList c).toArray⟩)/\Below w.heap.size w w'):cN P (repE f):=by
 intro α args H fr k z b;simp only[repE]at b;split at b
 case h_2=>cases b
 rename_i l n;obtain⟨h1,h2⟩:=bR b;simp only[EH,aw,aT]at h1;obtain⟨q,t,d⟩:=h1;have d:=az d;refine⟨_,h2,λv _=>.inl ⟨a,cK λι nb w j u r g=>?_⟩⟩;simp only[VRs,VR]at g;obtain⟨_,_,i,rfl,_,_,rfl,rfl,rfl⟩:=g;have:j=#[.string ⟨l.toArray⟩,.int .i64 n]:=by apply gQ;simpa using i
 subst this;have o:((n.toNat:Nat):Int)=n:=xe q;have:=h ⟨l.toArray⟩ n.toNat w (by omega) (by simpa[ByteArray.size]using d);rw[o]at this;refine this.mono λe w' ⟨p,m⟩=>⟨_,p,?_,m⟩;simp only[VR]
end Go.Abs
