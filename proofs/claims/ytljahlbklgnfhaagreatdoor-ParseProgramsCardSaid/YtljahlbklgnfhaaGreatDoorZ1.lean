import Derived.Test.YtljahlbklgnfhaaGreatDoorLG
import Derived.Test.YtljahlbklgnfhaaGreatDoorIT
import Derived.Test.YtljahlbklgnfhaaGreatDoorPR
import Derived.Test.YtljahlbklgnfhaaGreatDoorW1
import Derived.Test.YtljahlbklgnfhaaGreatDoorW2
import Derived.Test.YtljahlbklgnfhaaGreatDoorW3
import Derived.Test.YtljahlbklgnfhaaGreatDoorW4
import Derived.Test.YtljahlbklgnfhaaGreatDoorW5
import Derived.Test.YtljahlbklgnfhaaGreatDoorW6
import Derived.Test.YtljahlbklgnfhaaGreatDoorW7
import Derived.Test.YtljahlbklgnfhaaGreatDoorW15
import Derived.Test.YtljahlbklgnfhaaGreatDoorW8
import Derived.Test.YtljahlbklgnfhaaGreatDoorW9
import Derived.Test.YtljahlbklgnfhaaGreatDoorW10
import Derived.Test.YtljahlbklgnfhaaGreatDoorW11
import Derived.Test.YtljahlbklgnfhaaGreatDoorW12
import Derived.Test.YtljahlbklgnfhaaGreatDoorW14
import Derived.Test.YtljahlbklgnfhaaGreatDoorW13
set_option linter.unusedVariables false
namespace Go.Abs.U48
open Go.RowKit Go.Proofs
theorem J2w:Q0c env Z6s:=⟨by rintro b s h;exact J9r b s h,⟨Tryz.f36,K3q,rfl,by kernel_rfl⟩⟩
theorem Q1e:Q0c env Q0z:=⟨by rintro⟨s,c⟩ n h;exact J0o s c n h,⟨Tryz.f40,Y4r,rfl,by kernel_rfl⟩⟩
theorem K3o:Q0c env X4u:=⟨by rintro⟨xs,a⟩ s h;exact X7r xs a s h,⟨Tryz.f119,V5n,rfl,by kernel_rfl⟩⟩
theorem Z3o:Q0c env Q8u:=⟨by rintro⟨b,c⟩ d h;exact J0m b c d h,⟨Tryz.f121,V5l,rfl,by kernel_rfl⟩⟩
theorem Q9u:Q0c env Q6j:=⟨by rintro⟨b,s⟩ ⟨n,c⟩ h;exact Z6b b s n c h,⟨Tryz.f123,K0a,rfl,by kernel_rfl⟩⟩
theorem Z6c:Q0c env Z1u:=⟨by rintro⟨s,n⟩ t h;exact J9s s n t h,⟨Tryz.f124,V5j,rfl,by kernel_rfl⟩⟩
theorem X3q:Q0c env J7s:=⟨by rintro⟨s,d⟩ ⟨a,b,ok⟩ h;exact K3e s d a b ok h,⟨Tryz.f161,V4k,rfl,by kernel_rfl⟩⟩
theorem J2x:Q0c env Z3u:=⟨by rintro⟨s,p⟩ ok h;exact J0n s p ok h,⟨Tryz.f169,V4f,rfl,by kernel_rfl⟩⟩
theorem K3p:Q0c env X4v:=⟨by rintro n s h;exact X7s n s h,⟨Tryz.f189,V3r,rfl,by kernel_rfl⟩⟩
theorem X3r:Q0c env J5n:=⟨by rintro s ⟨n,bad⟩ h;exact X7t s n bad h,⟨Tryz.f199,V3p,rfl,by kernel_rfl⟩⟩
theorem J0p:Q0c env Z1t:=⟨by rintro⟨s,a,b⟩ t h;exact Z7u s a b t h,⟨Tryz.f216,V3e,rfl,by kernel_rfl⟩⟩
theorem V6o:Q0c env S74:=Y1h trivial
theorem J5t:Q0c env S42:=Y2a ⟨V6o,trivial⟩
theorem V8c:Q0c env S117:=V0w ⟨X3q,trivial⟩
theorem V8b:Q0c env S118:=V0v trivial
theorem V6p:Q0c env S72:=Y1i ⟨V8c,V8b,K3o,trivial⟩
theorem Z2t:Q0c env J3j:=K3g trivial
theorem J1f:Q0c env X0d:=K3h ⟨Z2t,trivial⟩
theorem Z2u:Q0c env J3k:=K3k trivial
theorem X4z:Q0c env X8p:=K3l ⟨Z2u,J5t,trivial⟩
theorem K4s:Q0c env K4i:=K3j ⟨J1f,V6p,Z2t,trivial⟩
theorem X8u:Q0c env X4x:=X7v ⟨Z2u,Q1e,J5t,trivial⟩
theorem X8t:Q0c env X4w:=X7u ⟨Z2u,Q1e,Z2t,Q9u,J5t,J2w,Z3o,trivial⟩
theorem X4y:Q0c env X8n:=K3f ⟨X8u,Z3o,Z2u,J5t,X8t,Q9u,Z6c,J2w,trivial⟩
theorem K4r:Q0c env K4h:=K3i ⟨X4z,X4y,Z2t,J1f,trivial⟩
theorem Y6j:Q0c env S76:=Y1g trivial
theorem V7q:Q0c env S166:=K9w ⟨X3r,K3p,trivial⟩
theorem V7z:Q0c env S125:=V0t ⟨Q1e,X3q,V7q,trivial⟩
theorem Y6i:Q0c env S77:=Y1f ⟨Z2u,J5t,Q1e,V7z,Z2t,trivial⟩
theorem Y6h:Q0c env S78:=Y1e ⟨Q1e,J1f,trivial⟩
theorem V7y:Q0c env S126:=V0s trivial
theorem Y6g:Q0c env S79:=Y1d ⟨V7y,Z2t,Z6c,J1f,trivial⟩
theorem Y6o:Q0c env S44:=Y1z ⟨Y6j,Y6i,Y6h,Y6g,X4y,trivial⟩
theorem Y6s:Q0c env S19:=Y2n ⟨X4z,Z2u,Q1e,K4s,J5t,K4r,Y6o,trivial⟩
theorem Y6n:Q0c env S46:=Y1y ⟨V6p,trivial⟩
theorem Q5g:Q0c env S84:=Y0z trivial
theorem J7w:Q0c env S128:=V0q trivial
theorem J7x:Q0c env S127:=V0r ⟨Q5g,J7w,trivial⟩
theorem X8s:Q0c env S80:=Y1c ⟨Q5g,J7x,trivial⟩
theorem X5f:Q0c env S133:=V0m ⟨Q1e,trivial⟩
theorem K0t:Q0c env S134:=V0l ⟨Q1e,J2x,trivial⟩
theorem J5r:Q0c env S83:=Y1a ⟨X5f,K0t,trivial⟩
theorem Z8y:Q0c env S129:=V0p ⟨J7w,trivial⟩
theorem X5g:Q0c env S130:=V0o trivial
theorem X8r:Q0c env S81:=Y1b ⟨Q5g,J5r,J7w,Z8y,X5g,trivial⟩
theorem Z3w:Q0c env S132:=V0n ⟨J7x,trivial⟩
theorem Z3v:Q0c env S168:=K9v ⟨Q5g,trivial⟩
theorem J1g:Q0c env S48:=Y1x trivial
theorem J7v:Q0c env S144:=V0b trivial
theorem Z8x:Q0c env S255:=K8d ⟨Q5g,Z3w,J1g,trivial⟩
theorem V6u:Q0c env S288:=K7o ⟨V6o,trivial⟩
theorem V6y:Q0c env S276:=K7t ⟨V6u,trivial⟩
theorem K0p:Q0c env S155:=K9y trivial
theorem V6v:Q0c env S287:=K7p ⟨K0p,trivial⟩
theorem V6z:Q0c env S275:=K7u ⟨V6v,trivial⟩
theorem V6x:Q0c env S277:=K7s ⟨X3r,trivial⟩
theorem J7u:Q0c env S256:=K8c ⟨Q5g,X5f,J7v,J1g,trivial⟩
theorem gG47:∀n,Q0c env (S200 (K200 n))/\Q0c env (S252 (K252 n))
 | 0=>⟨GH0 ⟨Tryz.f200,X9w,rfl,by kernel_rfl⟩ (λ⟨_,_,_,_,_⟩=>rfl),GH0 ⟨Tryz.f252,X9v,rfl,by kernel_rfl⟩ (λ⟨_,_,_,_⟩=>rfl)⟩
 | n+1=>by
  have i:=gG47 n
  obtain⟨b,a⟩:=i
  have j:Q0c env (S167 (K200 n)):=X9t ⟨b,Z3w,Z3v,trivial⟩
  have k:Q0c env (S131 (K200 n)):=X9u ⟨j,Z3w,Z3v,trivial⟩
  have l:Q0c env (S82 (K200 n)):=K7h ⟨k,Z3w,trivial⟩
  have d:Q0c env (S47 (K200 n)):=K7l ⟨X8s,X8r,l,Q5g,J5r,J1g,trivial⟩
  have m:Q0c env (S223 (K200 n) (K252 n)):=K8u ⟨Q5g,a,X8r,b,trivial⟩
  have o:Q0c env (S224 (K200 n)):=K8t ⟨Q5g,Z3v,b,trivial⟩
  have e:Q0c env (S253 (K200 n)):=K8f ⟨Z8x,d,trivial⟩
  have g:Q0c env (S254 (K252 n)):=K8e ⟨Q5g,Z6c,Q1e,J5t,V6y,V6z,X3q,V6x,a,trivial⟩
  have p:Q0c env (S225 (K200 n) (K252 n)):=K8s ⟨Q5g,e,X5g,g,trivial⟩
  have q:Q0c env (S226 (K200 n)):=K8r ⟨Q5g,Z8x,d,Z3v,b,trivial⟩
  have f:Q0c env (S257 (K252 n)):=K8b ⟨Z3v,Q5g,Z8y,a,trivial⟩
  have r:Q0c env (S227 (K200 n) (K252 n)):=K8q ⟨Q5g,Z8x,J7u,J5r,f,Z3v,b,trivial⟩
  have s:Q0c env (S258 (K200 n) (K252 n)):=K8a ⟨Q5g,a,Z8y,X8s,d,trivial⟩
  have t:Q0c env (S228 (K200 n) (K252 n)):=K8p ⟨Q5g,a,Z8x,X8s,J5r,s,trivial⟩
  have u:Q0c env (S229 (K200 n)):=K8o ⟨Q5g,J7u,J7x,e,trivial⟩
  have w:Q0c env (S230 (K252 n)):=K8n ⟨Q5g,a,Z8y,trivial⟩
  have x:Q0c env (S231 (K252 n)):=K8m ⟨Q5g,J5r,J1g,Z8y,a,X5g,g,trivial⟩
  have y:Q0c env (S200 (F200 (K200 n) (K252 n))):=K9e ⟨Q5g,X5f,J7v,J7w,m,o,p,J5r,q,r,t,u,w,J1g,X8r,x,trivial⟩
  have z:Q0c env (S286 (K252 n)):=K7q ⟨Q5g,J7u,J7x,f,J1g,Z8x,trivial⟩
  have A:Q0c env (S274 (K200 n) (K252 n)):=K7v ⟨Q5g,Z8y,J1g,z,J7u,f,Z8x,e,trivial⟩
  have C:Q0c env (S252 (F252 (K200 n) (K252 n))):=K8g ⟨A,Z3w,trivial⟩
  exact⟨y,C⟩
theorem Y2u(n:Nat):Q0c env (S200 (K200 n)):=(gG47 n).1
theorem K3m:Q0c env (S167 (K200 BIG)):=X9t ⟨(Y2u BIG),Z3w,Z3v,trivial⟩
theorem K3n:Q0c env (S131 (K200 BIG)):=X9u ⟨K3m,Z3w,Z3v,trivial⟩
theorem V1e:Q0c env (S82 (K200 BIG)):=K7h ⟨K3n,Z3w,trivial⟩
theorem V1i:Q0c env (S47 (K200 BIG)):=K7l ⟨X8s,X8r,V1e,Q5g,J5r,J1g,trivial⟩
theorem Y6r:Q0c env S20:=Y2m ⟨Y6n,V1i,J1g,trivial⟩
theorem V6t:Q0c env S32:=Y2e trivial
theorem gG15:∀n,Q0c env (S15 (K15 n))/\Q0c env (S31 (K31 n))
 | 0=>⟨GH0 ⟨Tryz.f15,V4p,rfl,by kernel_rfl⟩ (λ_=>rfl),GH0 ⟨Tryz.f31,V1v,rfl,by kernel_rfl⟩ (λ_=>rfl)⟩
 | n+1=>by
  have d:=gG15 n
  obtain⟨a,b⟩:=d
  have e:Q0c env (S15 (F15 (K15 n) (K31 n))):=Y2q ⟨a,b,V6t,trivial⟩
  have f:Q0c env (S31 (F31 (K15 n) (K31 n))):=Y2f ⟨a,b,trivial⟩
  exact⟨e,f⟩
theorem gK15(n:Nat):Q0c env (S15 (K15 n)):=(gG15 n).1
theorem gG51:∀n,Q0c env (S51 (K51 n))/\Q0c env (S86 (K86 n))
 | 0=>⟨GH0 ⟨Tryz.f51,V1s,rfl,by kernel_rfl⟩ (λ_=>rfl),GH0 ⟨Tryz.f86,V1o,rfl,by kernel_rfl⟩ (λ_=>rfl)⟩
 | n+1=>by
  have d:=gG51 n
  obtain⟨a,b⟩:=d
  have e:Q0c env (S51 (F51 (K51 n) (K86 n))):=Y1u ⟨a,b,V6t,trivial⟩
  have f:Q0c env (S86 (F86 (K51 n) (K86 n))):=Y0x ⟨b,a,trivial⟩
  exact⟨e,f⟩
theorem gK51(n:Nat):Q0c env (S51 (K51 n)):=(gG51 n).1
theorem Y6l:Q0c env S50:=Y1v ⟨(gK51 BIG),trivial⟩
theorem Y6f:Q0c env S85:=Y0y ⟨Y6l,trivial⟩
theorem Y6m:Q0c env S49:=Y1w ⟨Y6f,trivial⟩
theorem V7j:Q0c env S21:=Y2l ⟨(gK15 BIG),Y6m,trivial⟩
theorem G_F8:Q0c env S8:=g_F8 ⟨Y6s,Y6r,V7j,trivial⟩
theorem V6m:Q0c env S99:=Y0l ⟨J7v,trivial⟩
theorem V7b:Q0c env S262:=K7x trivial
theorem V7e:Q0c env S235:=K8i ⟨V7b,trivial⟩
theorem K0m:Q0c env S209:=K8x ⟨V7e,trivial⟩
theorem V7a:Q0c env S263:=K7w trivial
theorem V6w:Q0c env S278:=K7r ⟨V7a,Q1e,trivial⟩
theorem V7c:Q0c env S260:=K7y ⟨J7v,V6w,trivial⟩
theorem V7f:Q0c env S234:=K8j ⟨V7c,trivial⟩
theorem V7g:Q0c env S233:=K8k ⟨V7f,trivial⟩
theorem V7d:Q0c env S259:=K7z ⟨V7g,trivial⟩
theorem V7h:Q0c env S232:=K8l ⟨V7d,trivial⟩
theorem K0n:Q0c env S207:=K8y ⟨V7h,trivial⟩
theorem V7i:Q0c env S213:=K8v ⟨K0n,K0m,Q1e,K0t,trivial⟩
theorem gG29:∀n,Q0c env (S98 (K98 n))/\Q0c env (S182 (K182 n))
 | 0=>⟨GH0 ⟨Tryz.f98,V1n,rfl,by kernel_rfl⟩ (λ_=>rfl),GH0 ⟨Tryz.f182,X9x,rfl,by kernel_rfl⟩ (λ_=>rfl)⟩
 | n+1=>by
  have d:=gG29 n
  obtain⟨e,a⟩:=d
  have f:Q0c env (S64 (K98 n)):=K7i ⟨e,trivial⟩
  have g:Q0c env (S63 (K98 n)):=K7j ⟨f,trivial⟩
  have i:Q0c env (X8m (K98 n)):=X3o ⟨g,trivial⟩
  have j:Q0c env (X8o (K98 n)):=X3p ⟨i,trivial⟩
  have b:Q0c env (S29 (K98 n)):=K7n ⟨j,trivial⟩
  have k:Q0c env (S143 (K182 n)):=V0c ⟨a,trivial⟩
  have l:Q0c env (S98 (F98 (K182 n))):=Y0m ⟨k,trivial⟩
  have m:Q0c env (S210 (K98 n)):=K8w ⟨V6m,b,trivial⟩
  have o:Q0c env (S182 (F182 (K98 n) (K182 n))):=K9i ⟨V6m,b,K0m,m,a,K0n,V7i,trivial⟩
  exact⟨l,o⟩
theorem gK98(n:Nat):Q0c env (S98 (K98 n)):=(gG29 n).1
theorem V1f:Q0c env (S64 (K98 BIG)):=K7i ⟨(gK98 BIG),trivial⟩
theorem V1g:Q0c env (S63 (K98 BIG)):=K7j ⟨V1f,trivial⟩
theorem X7w:Q0c env (X8m (K98 BIG)):=X3o ⟨V1g,trivial⟩
theorem X7x:Q0c env (X8o (K98 BIG)):=X3p ⟨X7w,trivial⟩
theorem V1k:Q0c env (S29 (K98 BIG)):=K7n ⟨X7x,trivial⟩
theorem V7x:Q0c env S13:=Y2r ⟨V7j,V1k,trivial⟩
theorem V6r:Q0c env S36:=Y2b trivial
theorem V8d:Q0c env S108:=V0x ⟨K0p,trivial⟩
theorem V7r:Q0c env S163:=K9x trivial
theorem V8a:Q0c env S123:=V0u ⟨V7r,trivial⟩
theorem Z6u:Q0c env S103:=V1c ⟨V8a,trivial⟩
theorem K4o:Q0c env S67:=Y1j ⟨V6r,V8d,Z6u,trivial⟩
theorem K0u:Q0c env S105:=V1a trivial
theorem V7l:Q0c env S190:=K9f ⟨J0p,Z6u,trivial⟩
theorem K0q:Q0c env S152:=V0a ⟨V7l,Z6u,trivial⟩
theorem V8e:Q0c env S106:=V0z ⟨Z6u,K0q,K0u,trivial⟩
theorem V7s:Q0c env S153:=K9z ⟨Z6u,K0q,trivial⟩
theorem gG35:∀n,Q0c env (S66 (K66 n))
 | 0=>GH0 ⟨Tryz.f66,V1q,rfl,by kernel_rfl⟩ (λ⟨_,_,_⟩=>rfl)
 | n+1=>by
  have d:=gG35 n
  have a:=d
  have e:Q0c env (S35 (K66 n)):=K7m ⟨a,K4o,trivial⟩
  have b:Q0c env (S104 (K66 n)):=V1b ⟨Z6u,K4o,e,trivial⟩
  have f:Q0c env (S107 (K66 n)):=V0y ⟨b,a,Z6u,V7s,trivial⟩
  have g:Q0c env (S66 (F66 (K66 n))):=Y1k ⟨b,K0u,V8e,f,trivial⟩
  exact g
theorem gK66(n:Nat):Q0c env (S66 (K66 n)):=(gG35 n)
theorem V1j:Q0c env (S35 (K66 BIG)):=K7m ⟨(gK66 BIG),K4o,trivial⟩
theorem Y6t:Q0c env S17:=Y2o ⟨V7x,V1j,V6r,trivial⟩
theorem G_F7:Q0c env (S7 F7):=g_F7 ⟨G_F8,(gK15 BIG),V7x,Y6t,trivial⟩
theorem V7w:Q0c env S135:=V0k trivial
theorem X0e:Q0c env S53:=Y1s trivial
theorem X8q:Q0c env S89:=Y0u ⟨X0e,trivial⟩
theorem Y6e:Q0c env S87:=Y0w ⟨V7w,X0e,X8q,trivial⟩
theorem K4n:Q0c env S88:=Y0v trivial
theorem V6q:Q0c env S54:=Y1r trivial
theorem Y6d:Q0c env S90:=Y0t ⟨V6q,X0e,trivial⟩
theorem K0s:Q0c env S136:=V0j trivial
theorem V7u:Q0c env S138:=V0h ⟨K4n,K0s,trivial⟩
theorem V7t:Q0c env S139:=V0g trivial
theorem V6n:Q0c env S94:=Y0p ⟨V7u,V7t,trivial⟩
theorem Y6c:Q0c env S91:=Y0s ⟨K4n,V6n,X0e,X8q,trivial⟩
theorem V7p:Q0c env S170:=K9u trivial
theorem V7v:Q0c env S137:=V0i ⟨V7p,trivial⟩
theorem Y6b:Q0c env S92:=Y0r ⟨K0s,V7v,trivial⟩
theorem Y6a:Q0c env S93:=Y0q ⟨X8q,trivial⟩
theorem Y6k:Q0c env S52:=Y1t ⟨Y6e,K4n,X8q,Y6d,Y6c,Y6b,X0e,Y6a,V6n,trivial⟩
theorem Y6q:Q0c env S22:=Y2k ⟨Y6k,X0e,trivial⟩
theorem Y6p:Q0c env S23:=Y2j ⟨V6q,trivial⟩
theorem Q8v:Q0c env S59:=Y1n trivial
theorem Q9s:Q0c env S58:=Y1o ⟨Q8v,trivial⟩
theorem K4q:Q0c env S55:=Y1q ⟨Q8v,Q9s,trivial⟩
theorem J3m:Q0c env S171:=K9t trivial
theorem X5e:Q0c env S140:=V0f ⟨Q8v,J3m,trivial⟩
theorem K0o:Q0c env S172:=K9s trivial
theorem K0r:Q0c env S141:=V0e ⟨Q8v,J3m,K0o,trivial⟩
theorem Y5z:Q0c env S95:=Y0o ⟨X5e,K0r,trivial⟩
theorem K4p:Q0c env S56:=Y1p ⟨Y5z,Q9s,trivial⟩
theorem J5q:Q0c env S97:=Y0n ⟨Q8v,trivial⟩
theorem J5s:Q0c env S60:=Y1m ⟨Q8v,trivial⟩
theorem X5d:Q0c env S173:=K9r ⟨Q8v,J3m,K0o,J5s,trivial⟩
theorem X5c:Q0c env S174:=K9q ⟨Q9s,J5s,trivial⟩
theorem X5a:Q0c env S203:=K9c ⟨Q8v,Q9s,trivial⟩
theorem X5b:Q0c env S178:=K9m ⟨Q8v,trivial⟩
theorem V7o:Q0c env S176:=K9o ⟨Q9s,X5a,X5b,trivial⟩
theorem V7n:Q0c env S186:=K9h trivial
theorem V7k:Q0c env S204:=K9b trivial
theorem V7m:Q0c env S187:=K9g trivial
theorem gG24:∀n,Q0c env (S142 (K142 n))/\Q0c env (S175 (K175 n))
 | 0=>⟨GH0 ⟨Tryz.f142,X9z,rfl,by kernel_rfl⟩ (λ⟨_,_,_,_,_,_⟩=>rfl),GH0 ⟨Tryz.f175,X9y,rfl,by kernel_rfl⟩ (λ⟨_,_,_,_,_,_⟩=>rfl)⟩
 | n+1=>by
  have i:=gG24 n
  obtain⟨b,a⟩:=i
  have j:Q0c env (S96 (K142 n)):=K7g ⟨b,Q9s,J5q,trivial⟩
  have k:Q0c env (S57 (K142 n)):=K7k ⟨j,Q9s,J5q,trivial⟩
  have e:Q0c env (S24 (K142 n)):=K8h ⟨K4q,K4p,k,Q9s,Q8v,J5s,trivial⟩
  have d:Q0c env (S177 (K142 n)):=K9n ⟨Q8v,X5c,e,trivial⟩
  have f:Q0c env (S179 (K175 n)):=K9l ⟨Q8v,V7n,J3m,V7k,a,trivial⟩
  have l:Q0c env (S206 (K175 n)):=K8z ⟨a,X5a,trivial⟩
  have g:Q0c env (S205 (K175 n)):=K9a ⟨J5q,Q9s,a,trivial⟩
  have m:Q0c env (S180 (K142 n) (K175 n)):=K9k ⟨Q8v,X5c,a,X5d,l,X5e,d,J5q,b,g,K4q,Q9s,K4p,J5s,e,trivial⟩
  have o:Q0c env (S181 (K175 n)):=K9j ⟨X5b,f,Q8v,V7m,J3m,J5s,X5a,a,trivial⟩
  have p:Q0c env (S142 (F142 (K142 n) (K175 n))):=V0d ⟨Q8v,K0r,X5d,X5c,a,V7o,b,Q9s,d,X5b,f,X5e,m,o,trivial⟩
  have q:Q0c env (S202 (K142 n) (K175 n)):=K9d ⟨Q8v,Q9s,X5d,J5q,J5s,g,d,trivial⟩
  have r:Q0c env (S175 (F175 (K142 n) (K175 n))):=K9p ⟨q,Q9s,trivial⟩
  exact⟨p,r⟩
theorem Y2v(n:Nat):Q0c env (S142 (K142 n)):=(gG24 n).1
theorem V1d:Q0c env (S96 (K142 BIG)):=K7g ⟨(Y2v BIG),Q9s,J5q,trivial⟩
theorem V1h:Q0c env (S57 (K142 BIG)):=K7k ⟨V1d,Q9s,J5q,trivial⟩
theorem V1l:Q0c env (S24 (K142 BIG)):=K8h ⟨K4q,K4p,V1h,Q9s,Q8v,J5s,trivial⟩
theorem V6s:Q0c env S34:=Y2c trivial
theorem gG16:∀n,Q0c env (S16 (K16 n))/\Q0c env (S33 (K33 n))
 | 0=>⟨GH0 ⟨Tryz.f16,V4l,rfl,by kernel_rfl⟩ (λ_=>rfl),GH0 ⟨Tryz.f33,V1u,rfl,by kernel_rfl⟩ (λ_=>rfl)⟩
 | n+1=>by
  have d:=gG16 n
  obtain⟨a,b⟩:=d
  have e:Q0c env (S16 (F16 (K16 n) (K33 n))):=Y2p ⟨b,a,V6s,trivial⟩
  have f:Q0c env (S33 (F33 (K16 n) (K33 n))):=Y2d ⟨b,a,trivial⟩
  exact⟨e,f⟩
theorem gK16(n:Nat):Q0c env (S16 (K16 n)):=(gG16 n).1
theorem gG25:∀n,Q0c env (S25 (K25 n))/\Q0c env (S61 (K61 n))
 | 0=>⟨GH0 ⟨Tryz.f25,V2q,rfl,by kernel_rfl⟩ (λ_=>rfl),GH0 ⟨Tryz.f61,V1r,rfl,by kernel_rfl⟩ (λ_=>rfl)⟩
 | n+1=>by
  have d:=gG25 n
  obtain⟨a,b⟩:=d
  have e:Q0c env (S25 (F25 (K25 n) (K61 n))):=Y2i ⟨b,a,V6s,trivial⟩
  have f:Q0c env (S61 (F61 (K25 n) (K61 n))):=Y1l ⟨b,a,trivial⟩
  exact⟨e,f⟩
theorem gK25(n:Nat):Q0c env (S25 (K25 n)):=(gG25 n).1
theorem G_F9:Q0c env S9:=g_F9 ⟨Y6q,Y6p,V1l,(gK16 BIG),(gK25 BIG),trivial⟩
theorem gG10:∀n,Q0c env (S10 (K10 n))/\Q0c env (S26 (K26 n))
 | 0=>⟨GH0 ⟨Tryz.f10,V5x,rfl,by kernel_rfl⟩ (λ⟨_,_⟩=>rfl),GH0 ⟨Tryz.f26,V2i,rfl,by kernel_rfl⟩ (λ⟨_,_⟩=>rfl)⟩
 | n+1=>by
  have d:=gG10 n
  obtain⟨a,b⟩:=d
  have e:Q0c env (S10 (F10 (K10 n) (K26 n))):=Y2t ⟨b,a,trivial⟩
  have f:Q0c env (S26 (F26 (K10 n) (K26 n))):=Y2h ⟨b,a,trivial⟩
  exact⟨e,f⟩
theorem gK10(n:Nat):Q0c env (S10 (K10 n)):=(gG10 n).1
theorem gG11:∀n,Q0c env (S11 (K11 n))/\Q0c env (S27 (K27 n))
 | 0=>⟨GH0 ⟨Tryz.f11,V5q,rfl,by kernel_rfl⟩ (λ⟨_,_⟩=>rfl),GH0 ⟨Tryz.f27,V2e,rfl,by kernel_rfl⟩ (λ⟨_,_⟩=>rfl)⟩
 | n+1=>by
  have d:=gG11 n
  obtain⟨a,b⟩:=d
  have e:Q0c env (S11 (F11 (K11 n) (K27 n))):=Y2s ⟨a,b,trivial⟩
  have f:Q0c env (S27 (F27 (K11 n) (K27 n))):=Y2g ⟨b,a,trivial⟩
  exact⟨e,f⟩
theorem gK11(n:Nat):Q0c env (S11 (K11 n)):=(gG11 n).1
theorem G_F3:Q0c env S3:=g_F3 ⟨G_F7,G_F8,G_F9,(gK10 BIG),(gK11 BIG),trivial⟩
theorem good_F3(a:Str)(h:F3 a=some true):Good env 3 [as_ a] [] [ab true] []:=G_F3.1 a true h
end Go.Abs.U48
